/- Several texts in one file: contracts of the program's functions and what follows from them. -/
import Derived.Test.YtnphndlbfeagbaaGreatB3
import Derived.Maps.RangeRun
import Derived.Shelf.SlSortCmp.WholeK
import Derived.Shelf.SlicesG.Cmp
import Derived.Shelf.SlGeneric
import Derived.Ground.SlsfProg
import Derived.Ground.SlgcProg
import Derived.Test.YtnphndlbfeagbaaGreatProg
import Derived.Shelf.SlSortCmp.NoneTotal
import Derived.Sort.CutIn
set_option linter.all false
set_option maxRecDepth 100000
set_option maxHeartbeats 8000000
namespace Go.Proofs.YtnphndlbfeagbaaGreat
open Go.Proofs.Tryz
open Go.RowKit
variable {C:Nat->Prop}{F G:BF}{K:Law}{Od:List Nat->Prop}{P:Program}{Q:Exit->Act->Wd->Prop}{V:Nat->BF}{W0 w w' w0 w1 w2 wr:Wd}{a:Act}{args:Array Value}{b bf clock gf k k' mb n r room:Nat}{ev:Ev}{fs:List (Int×BF)}{kf nx:Int}{lim:Option Nat}{m m':ManD}{oG:Own}{seen:Array Nat}{v:Value}{ws ws0:List Ev}
def Jp {o:Oper}{K:Act->Wd->Prop}{f:FuncId}{R:Value->Wd->Prop}{R2:List PanicEntry->Wd->Prop}(H:(execOp a.eval o).run P w=.ok (.enter f args) w)
 (I:Calls P f args w λe w'=>(∃v,e=.returned v/\R v w')\/(∃ch,e=.panicked ch/\R2 ch w')) (h:∀v w',R v w'->K (a.put o.dst v) w') (h2:∀ch w',R2 ch w'->Q (.panic ch) a w'):o.wp P a w K Q:=by
 unfold Oper.wp;simp only[H,Oper.upon];refine I.mono λe w' hh=>?_
 rcases hh with ⟨v,h1,h3⟩|⟨ch,h1,h3⟩
 . subst h1;exact h v w' h3
 . subst h1;exact h2 ch w' h3
abbrev C3 (bf bg bh:Nat):Nat->Prop:=λk=>k=bf\/k=bg\/k=bh
structure B3 (bf bg bh:Nat)(kf kg kh:Int)(W:Wd):Prop where
 f:W.cell? (Av bf)=some (Iv kf)
 g:W.cell? (Av bg)=some (Iv kg)
 h:W.cell? (Av bh)=some (Iv kh)
def B3.keep {I H:Nat}{U O:Int}(W W':Wd)(h:B3 bf I H kf U O W)(hk:∀c,C3 bf I H c->W'.heap[c]?=W.heap[c]?):B3 bf I H kf U O W':=
 ⟨Co h.f (hk _ (.inl rfl)),Co h.g (hk _ (.inr (.inl rfl))),Co h.h (hk _ (.inr (.inr rfl)))⟩
def Ba (F G H:BF):BF:=fun ρ=>iteB (F ρ) (G ρ) (H ρ)
def SatX (K:Law)(n:Nat)(Od:List Nat->Prop)(room:Nat)(w0:Wd)(mb:Nat)(fs:List (Int×BF))(nx:Int)(m:ManD):Prop:=∃W o V,SatE K n Od room w0 mb fs nx W o m V
def Es (lim:Option Nat)(k:Nat)(m:ManD):Prop:=∀M,lim=some M->m.d.pool.many<=M+k
def QF (ws0:List Ev)(lim:Option Nat)(k:Nat)(F:BF)(_:Wd)(m':ManD)(V':Nat->BF)(r:Nat):Prop:=ef V' r=F/\m'.waits <:+ ws0/\Es lim k m'
def EF (A:ManD->Prop)(k:Nat)(ws0:List Ev)(er:Int)(m m':ManD):Prop:=er=7/\A m/\m'.d.pool.many=m'.d.pool.room/\m'.d.pool.many+1<=m.d.pool.many+k/\m'.waits <:+ ws0
abbrev Et (ws0:List Ev)(m:ManD):Prop:=m.waits <:+ ws0
abbrev StL (ws0:List Ev)(lim:Option Nat)(m:ManD):Prop:=Et ws0 m/\Es lim 0 m
def EL (A:ManD->Prop)(k:Nat)(ws0:List Ev)(lim:Option Nat)(er:Int)(m m':ManD):Prop:=lim=none/\EF A k ws0 er m m'
def Eu (ws0:List Ev)(lim:Option Nat)(k room:Nat):Prop:=∀M,lim=some M->ws0=[]/\M+k<=room
def Jq (h:Eu ws0 lim k room)(h1:Es lim 0 m)(h2:m'.d.pool.room+1<=m.d.pool.many+k)(h3:m'.d.pool.room=room):lim=none:=by
 cases lim with
 | none=>rfl
 | some M=>
   have:=(h M rfl).2;have:=h1 M rfl;omega
def Jr (h:Eu ws0 lim k room)(h1:ev::ws <:+ ws0):Es lim k' m:=λM e=>by
 have:=(h M e).1;subst this;simp at h1
abbrev Yg:=@Nat.pow_pos
abbrev XX:=@List.mem_cons_self
def RM (S:AC K)(ws0:List Ev)(lim:Option Nat)(Y:Eu ws0 lim (2^n-1) room)(Z:∀ev∈ws0,HapG K n Od room w0 mb fs nx ev)(bf U O:Nat){k j:Int}{H:BF}(y:(kf,F)∈fs)(x:(k,G)∈fs)(hh:(j,H)∈fs):
 OpG K n Od room w0 mb fs nx (C3 bf U O) (B3 bf U O kf k j) (StL ws0 lim) 136 #[Pt bf,Pt U,Pt O] (QF ws0 lim (2^n-1) (Ba F G H)) (EL (SatX K n Od room w0 mb fs nx) (2^n-1) ws0 lim):=by
 intro o W m V xb g0 l J g1 g7 hnx;obtain⟨f,y,ef1⟩:=g0.find y;obtain⟨g,x,E⟩:=g0.find x;obtain⟨h,hh,D⟩:=g0.find hh;have hk:=g0.ok;have g8:=g0.lt;have gc:=hk.store;obtain⟨s,Q⟩:=g0.is;have g2:Bw W W.drew:=An W 1;have g6:=Q.below g8 g2;have ga:=g8.mono g2.size;have g5:AR o W.drew xb mb:=⟨(g2.cell (p:=Av xb) (Ad g7.cell)).trans g7.cell,g7.own⟩;have C:=(g2.cell (p:=Av bf) (Ad l.f)).trans l.f;have B:=(g2.cell (p:=Av U) (Ad l.g)).trans l.g;have A:=(g2.cell (p:=Av O) (Ad l.h)).trans l.h;have of:=(J bf (.inl rfl)).2;have N:=(J U (.inr (.inl rfl))).2;have L:=(J O (.inr (.inr rfl))).2;have gi:=Hd (DQ ⟨s,g6⟩ g5 hk.handles.nodup y);have gh:=Hd (DQ ⟨s,g6⟩ g5 hk.handles.nodup x);have gg:=Hd (DQ ⟨s,g6⟩ g5 hk.handles.nodup hh);have gd:=Hd (L6 S n o W.drew xb mb m V f g h ⟨s,g6⟩ ga g5 gc (hk.handles.ok _ y) (hk.handles.ok _ x) (hk.handles.ok _ hh) (by rw[g0.vars];omega));obtain⟨P,hP⟩:∃P:Ending->Wd->Prop,P=λe w'=>∃(o':Own) (m':ManD) (V':Nat->BF),B9 (C3 bf U O) K o W mb m V o' w' m' V'/\B3 bf U O kf k j w' /\
  ((∃r:Nat,e=.returned (Iv r)/\okE (Aa m'.d) r/\QF ws0 lim (2^n-1) (Ba F G H) w' m' V' r) \/
   (∃er:Int,e=A1 er false ev0/\er≠0/\m'.waits=m.waits/\StL ws0 lim m'/\EL (SatX K n Od room w0 mb fs nx) (2^n-1) ws0 lim er m m') \/
   (∃ev,e=A1 0 true ev/\m.waits=ev::m'.waits/\StE K n Od room w0 mb fs nx (StL ws0 lim) m'/\HapG K n Od room w0 mb fs nx ev)):=⟨_,rfl⟩
 have ge:Hq (∀e w',L4 K n o W.drew mb m V f g h e w'->(∃v,e=.returned v/\(w'.cell? (Av bf)=some (Iv kf)/\w'.cell? (Av U)=some (Iv k)/\w'.cell? (Av O)=some (Iv j))/\P (.returned v) w')\/(∃ch,e=.panicked ch/\P (.panicked ch) w')):=by
  refine Hd ?_;subst hP;rintro e w' ⟨o',m',V',st,g9⟩;have g3:B3 bf U O kf k j w':=⟨st.chg.cell C of,st.chg.cell B N,st.chg.cell A L⟩;have b:B9 (C3 bf U O) K o W mb m V o' w' m' V':=Step.toX (K:=K) ⟨st.is,st.lt,(Chg.of_below g2 _ o).trans st.chg,st.ok,st.ext,st.hs,st.next⟩ _;have hp2:0<2^n:=Yg (by omega);rcases g9 with ⟨r,rfl,h1,h2,h3⟩|⟨rfl,h2,h3,h4⟩|⟨ev,rfl,h1⟩
  . refine .inl ⟨_,rfl,⟨g3.f,g3.g,g3.h⟩,o',m',V',b,g3,.inl ⟨r,rfl,h1.okR,?_,by rw[h2];exact g1.1,λM e=>by have:=g1.2 M e;omega⟩⟩;have e1:=(st.ext.ef (hk.handles.ok _ y)).trans ef1;have e2:=(st.ext.ef (hk.handles.ok _ x)).trans E;have e3:=(st.ext.ef (hk.handles.ok _ hh)).trans D;dsimp only at e1 e2 e3;funext ρ;rw[h1.val ρ,e1,e2,e3];rfl
  . have T:lim=none:=Jq Y g1.2 (by rw[<-h3];omega) (by rw[st.ext.room];exact g0.room);exact .inr ⟨_,rfl,o',m',V',b,g3,.inr (.inl ⟨7,rfl,by omega,h2,⟨by unfold Et;rw[h2];exact g1.1,by subst T;exact λM e=>by cases e⟩,T,rfl,⟨_,_,_,g0⟩,h3,by omega,by rw[h2];exact g1.1⟩)⟩
  ·refine .inr ⟨_,rfl,o',m',V',b,g3,.inr (.inr ⟨ev,rfl,h1,?_,?_⟩)⟩
   all_goals
    have g4:m.waits <:+ ws0:=g1.1;rw[h1]at g4
    first|exact λ_ _ _ _ _ e _ _=>⟨by unfold Et;rw[e];exact(List.suffix_cons ev m'.waits).trans g4,Jr Y g4⟩|exact Z ev (g4.subset (XX ..))
 rw[<-hP];clear Q gc hk g7 l J g1 hnx Z Y S g8 y x hh of N L g6 ga g5 g2 g0 hP ef1 E D
 go_enter func136,ntmps136
 go_upto_region 1 with fail;refine Jn (λW:Wd=>W.cell? (Av bf)=some (Iv kf)/\W.cell? (Av U)=some (Iv k)/\W.cell? (Av O)=some (Iv j)) (λch w'=>P (.panicked ch) w') 12 (λc a w hd h=>⟨hd,h⟩) (by kernel_rfl) ⟨C,B,A⟩ ?_;refine Ck 0 rfl rfl (by kernel_rfl) ?_;apply Exists.intro;refine⟨λw' I=>?_,?_⟩
 . obtain⟨u,t,q⟩:=I;go_simp;rfl
 simp only[Ab];refine Ck 1 rfl rfl (by kernel_rfl) ?_;apply Exists.intro;refine⟨λw' I=>?_,?_⟩
 . obtain⟨u,t,q⟩:=I;go_simp;rfl
 simp only[Ab];refine Ck 2 rfl rfl (by kernel_rfl) ?_;apply Exists.intro;refine⟨λw' I=>?_,?_⟩
 . obtain⟨u,t,q⟩:=I;go_simp;rfl
 simp only[Ab];refine Ck 4 rfl rfl (by kernel_rfl) ?_;apply Exists.intro;refine⟨λw' I=>?_,?_⟩
 . obtain⟨u,t,q⟩:=I;go_simp;rfl
 simp only[Ab];refine Ck 5 rfl rfl (by kernel_rfl) ?_;apply Exists.intro;refine⟨λw' I=>?_,?_⟩
 . obtain⟨u,t,q⟩:=I;go_simp;rfl
 simp only[Ab];refine Ck 7 rfl rfl (by kernel_rfl) ?_;apply Exists.intro;refine⟨λw' I=>?_,?_⟩
 . obtain⟨u,t,q⟩:=I;go_simp;rfl
 simp only[Ab];refine Ck 8 rfl rfl (by kernel_rfl) ?_;apply Exists.intro;refine⟨λw' I=>?_,?_⟩
 . obtain⟨u,t,q⟩:=I;go_simp;rfl
 simp only[Ab];refine Df [3] (by kernel_rfl) (λi hi z o X=>?_);simp only[CA]at hi;subst hi;simp only[Cx]at X;subst X;refine⟨rfl,?_⟩;refine Dd (v:=Iv (f:Nat)) (R:=λw'=>W.drew=w') (by go_simp) gi.o ?_;rintro w' rfl;refine⟨⟨C,B,A⟩,?_⟩;simp only[Ab];refine Df [6] (by kernel_rfl) (λi hi z o X=>?_);simp only[CA]at hi;subst hi;simp only[Cx]at X;subst X;refine⟨rfl,?_⟩;refine Dd (v:=Iv (g:Nat)) (R:=λw'=>W.drew=w') (by go_simp) gh.o ?_;rintro w' rfl;refine⟨⟨C,B,A⟩,?_⟩;simp only[Ab];refine Df [9] (by kernel_rfl) (λi hi z o X=>?_);simp only[CA]at hi;subst hi;simp only[Cx]at X;subst X;refine⟨rfl,?_⟩;refine Dd (v:=Iv (h:Nat)) (R:=λw'=>W.drew=w') (by go_simp) gg.o ?_;rintro w' rfl;refine⟨⟨C,B,A⟩,?_⟩;simp only[Ab];refine Df [10] (by kernel_rfl) (λi hi z o X=>?_);simp only[CA]at hi;subst hi;simp only[Cx]at X;subst X;refine⟨rfl,?_⟩;refine Jp (R:=λv w'=>(w'.cell? (Av bf)=some (Iv kf)/\w'.cell? (Av U)=some (Iv k)/\w'.cell? (Av O)=some (Iv j))/\P (.returned v) w') (R2:=λch w'=>P (.panicked ch) w') (by go_simp) (gd.o.mono ge.o) ?_ ?_
 ·rintro v w' ⟨z,g1⟩;refine⟨z,?_⟩;have gf:=Hd g1;clear g1;simp only[Ab];refine Ck 11 rfl rfl (by kernel_rfl) ?_;apply Exists.intro;refine⟨λw' I=>?_,?_⟩
  . go_simp;rfl
  simp only[Ab];refine Jo (by kernel_rfl) ?_;clear z C B A;go_wp2_with fail;exact gf.o
 . intro ch w' g1;exact⟨rfl,g1⟩
abbrev C1 (b:Nat):Nat->Prop:=λk=>k=b
structure B1 (b:Nat)(v:Int)(W:Wd):Prop where
 c:W.cell? (Av b)=some (Iv v)
def B1.keep {v:Int}(W W':Wd)(h:B1 b v W)(hk:∀c,C1 b c->W'.heap[c]?=W.heap[c]?):B1 b v W':=⟨Co h.c (hk _ rfl)⟩
def RO (f:AC K)(ws0:List Ev)(lim:Option Nat)(H:Eu ws0 lim 1 room)(X:∀ev∈ws0,HapG K n Od room w0 mb fs nx ev)(v I:Nat)(b:v<n):
 OpG K n Od room w0 mb fs nx (C1 I) (B1 I v) (StL ws0 lim) 87 #[Pt I] (QF ws0 lim 1 (varF v)) (EL (SatX K n Od room w0 mb fs nx) 1 ws0 lim):=by
 intro o W m V xb g1 i g g0 hx hnx;have hk:=g1.ok;have g9:=g1.lt;have g2:=hk.store;have o0:okE (Aa m.d) 0:=.inl rfl;have o1:okE (Aa m.d) 1:=.inl rfl;have g4:lvE m.d.vars.length (levN m.d) (Aa m.d) 0=m.d.vars.length:=F5 g2 rfl;have gc:lvE m.d.vars.length (levN m.d) (Aa m.d) 1=m.d.vars.length:=F5 g2 rfl;have g8:v<m.d.vars.length:=by rw[g1.vars];exact b
 have k:=g2.dag.lt v g8;have ge:=Hd (IY f g1.is g9 hx g2 v 1 0 o1 o0);have a:=i.c;have ob:=(g I rfl).2;obtain⟨P,hP⟩:∃P:Ending->Wd->Prop,P=λe w'=>∃(o':Own) (m':ManD) (V':Nat->BF),B9 (C1 I) K o W mb m V o' w' m' V'/\B1 I v w' /\
  ((∃r:Nat,e=.returned (Iv r)/\okE (Aa m'.d) r/\QF ws0 lim 1 (varF v) w' m' V' r) \/
   (∃er:Int,e=A1 er false ev0/\er≠0/\m'.waits=m.waits/\StL ws0 lim m'/\EL (SatX K n Od room w0 mb fs nx) 1 ws0 lim er m m') \/
   (∃ev,e=A1 0 true ev/\m.waits=ev::m'.waits/\StE K n Od room w0 mb fs nx (StL ws0 lim) m'/\HapG K n Od room w0 mb fs nx ev)):=⟨_,rfl⟩
 have l:Hq (∀e w',G2 K o W mb m V v 1 0 e w'->(∃r:Nat,e=.returned (Iv r)/\P (.returned (Iv r)) w')\/(∃er U ev,e=A1 er U ev/\P (A1 er U ev) w')):=by
  refine Hd ?_;subst hP;rintro e w' ⟨o',m',V',st,g7⟩;have g5:B1 I v w':=⟨st.chg.cell a ob⟩;have O:B9 (C1 I) K o W mb m V o' w' m' V':=st.toX _;rcases g7 with ⟨ev,h1,_,_,_,_,rfl⟩|⟨h1,_,_,(⟨er,j,Z,_,rfl⟩|⟨_,_,r,rfl,h2,h3,_,q⟩)⟩
  ·refine .inr ⟨0,true,ev,rfl,o',m',V',O,g5,.inr (.inr ⟨ev,rfl,h1,?_,?_⟩)⟩
   all_goals
    have g3:m.waits <:+ ws0:=g0.1;rw[h1]at g3
    first|exact λ_ _ _ _ _ e _ _=>⟨by unfold Et;rw[e];exact(List.suffix_cons ev m'.waits).trans g3,Jr H g3⟩|exact X ev (g3.subset (XX ..))
  ·refine .inr ⟨er,false,ev0,rfl,o',m',V',O,g5,.inr (.inl ?_)⟩;rcases j with ⟨_,h⟩|⟨_,_,_,h⟩|⟨rfl,h⟩
   . exact(h ⟨by omega,by omega⟩).elim
   . simp only[YH]at h;omega
   . have g4:lim=none:=Jq (m':=m') H g0.2 (by rw[Z];omega) (by rw[st.ext.room];exact g1.room);exact⟨7,rfl,by omega,h1,⟨by unfold Et;rw[h1];exact g0.1,by subst g4;exact λM e=>by cases e⟩,g4,rfl,⟨_,_,_,g1⟩,by rw[Z];exact h,by rw[Z];omega,by rw[h1];exact g0.1⟩
  . refine .inl ⟨r,rfl,o',m',V',O,g5,.inl ⟨r,rfl,h2,?_,by rw[h1];exact g0.1,λM e=>by have:=g0.2 M e;omega⟩⟩;rw[h3];funext ρ;have a0:=Eo g2.dag.one ρ;have p:=Ep g2.dag.one ρ;simp only[iteF,varF,YH,a0,p];cases ρ v<;>rfl
 rw[<-hP];clear g2 o0 o1 g4 gc k g8 hk hx g f b g9 i hnx g0 hP ob g1 H
 go_enter func87,ntmps87
 go_wp2_with fail;refine ge.o.mono ?_;intro e w' Y;rcases l.o e w' Y with ⟨r,rfl,g0⟩|⟨er,U,ev,rfl,g0⟩
 . have g6:=Hd g0;clear Y g0;go_wp2_with fail;exact g6.o
 . have g6:=Hd g0;clear Y g0;unfold A1;go_wp2_with fail;exact⟨rfl,g6.o⟩
def DS (K:Law)(n:Nat)(Od:List Nat->Prop)(room:Nat)(w0:Wd)(mb:Nat)(fs:List (Int×BF))(nx:Int)(ws0:List Ev)(lim:Option Nat)(k:Nat)(F:BF)(o:Own)(w:Wd)(x:Ending)(w':Wd):Prop:=
 ∃o' m' V',ChgX NoB o o' w w'/\m'.waits <:+ ws0/\((x=.returned (.tuple #[Iv nx,Iv 0])/\Es lim k m'/\SatE K n Od room w0 mb (fs++[(nx,F)]) (nx+1) w' o' m' V') \/
  (x=.returned (.tuple #[Iv 0,Iv 7])/\lim=none/\SatE K n Od room w0 mb fs nx w' o' m' V'/\∃m0,SatX K n Od room w0 mb fs nx m0/\m0.d.dead=0/\room+1<=m0.d.pool.many+k))
def StL.coll (m:ManD)(d:Af)(h:StL ws0 lim m)(r:AN m.d d):StL ws0 lim { m with d:=d }:=⟨h.1,λM e=>by have:=h.2 M e;have:=r.many;show d.pool.many<=M+0;omega⟩
def LU {o:Own}{B:Wd->Prop}{x:Ending}(hb:Bw w w1)(Z:∀c,C c->w.heap.size<=c)
 (h:Jk K n Od room w0 mb fs nx C B (QF ws0 lim k F) (EL (SatX K n Od room w0 mb fs nx) k ws0 lim) o w1 x w'):DS K n Od room w0 mb fs nx ws0 lim k F o w x w':=by
 obtain⟨o',m',V',_,Y,g0⟩:=h;have g1:ChgX NoB o o' w w':=(ChgX.of_below hb o NoB).trans Y (λk hk e=>by have:=Z k e;omega);rcases g0 with ⟨r,m1,rfl,hs,⟨X,U,I⟩,_,_,_,_,H,O,_⟩|⟨er,m0,_,rfl,hs,⟨g3,rfl,g2,h1,h2,h3⟩,a⟩
 . exact⟨o',m',V',g1,by rw[O];exact U,.inl ⟨rfl,λM e=>by rw[H];exact I M e,by rw[<-X];exact hs⟩⟩
 . refine⟨o',m',V',g1,h3,.inr ⟨rfl,g3,hs,m0,g2,a rfl,?_⟩⟩;have:=hs.room;omega
def RP (f:AC K){o:Own}(h:SatE K n Od room w0 mb fs nx w o m V)(ws0:List Ev)(Y:m.waits <:+ ws0)(lim:Option Nat)(U:Eu ws0 lim (2^n-1) room)(Z:Es lim 0 m)(X:∀ev∈ws0,HapG K n Od room w0 mb fs nx ev)(g:nx<1099511627776)
 {kf O I:Int} {F G H:BF} (j:(kf,F)∈fs) (i:(O,G)∈fs) (hh:(I,H)∈fs):
 Cl 97 #[Pt mb,Iv kf,Iv O,Iv I] w (DS K n Od room w0 mb fs nx ws0 lim (2^n-1) (Ba F G H) o w):=by
 have g1:∀(fn:Fn) (first cap:Array Value) (w:Wd),(Instr.makeFunc fn first cap).run prog w=.ok (.func fn first cap) w:=λ_ _ _ _=>rfl
 obtain⟨hb,k,cg,ch⟩:=Ru kf O I w;have hw0:=h.chg.size;have l:(box3 kf O I w).heap.size=w.heap.size+3:=by simp[box3]
 have g0:Hq (Cl 86 #[Pt mb,.func (.func 136) #[] #[Pt w.heap.size,Pt (w.heap.size+1),Pt (w.heap.size+1+1)]] (box3 kf O I w) (DS K n Od room w0 mb fs nx ws0 lim (2^n-1) (Ba F G H) o w)):=by
  refine Hd ?_;refine(Jl f B3.keep (λ_ _ _ _ _ h _=>h) StL.coll ?_ Rt (RM f ws0 lim U X w.heap.size (w.heap.size+1) (w.heap.size+1+1) j i hh) (h.below hb) ⟨k,cg,ch⟩ ?_ ⟨Y,Z⟩ g).mono λx w' p=>LU hb ?_ p
  . rintro c (rfl|rfl|rfl)<;>omega
  . rintro c (rfl|rfl|rfl)<;>exact⟨by omega,h.lt.none (by omega)⟩
  . rintro c (rfl|rfl|rfl)<;>omega
 have q:Hq (_=box3 kf O I w):=Hd (show((w.alloc (.cells #[Iv kf] 3)).alloc (.cells #[Iv O] 3)).alloc (.cells #[Iv I] 3)=box3 kf O I w from rfl);clear h f Y X g j i hh hb k cg ch hw0 l U Z;obtain⟨P,e⟩:=Ex (DS K n Od room w0 mb fs nx ws0 lim (2^n-1) (Ba F G H) o w);rw[<-e]at g0⊢;have r:Hq (∀x w',P x w'->∃a b,x=.returned (.tuple #[Iv a,Iv b])):=by
  refine Hd ?_;subst e;rintro x w' ⟨_,_,_,_,_,(⟨rfl,_⟩|⟨rfl,_⟩)⟩
  . exact⟨_,_,rfl⟩
  . exact⟨_,_,rfl⟩
 clear e
 go_enter func97,ntmps97
 go_wp2_with fail;rw[q.o];refine g0.o.mono ?_;intro x w' d;obtain⟨a,b,rfl⟩:=r.o x w' d;have s:=Hd d;clear d;go_wp2_with fail;exact s.o
def LV (e:AC K){o:Own}(h:SatE K n Od room w0 mb fs nx w o m V)(ws0:List Ev)(O:m.waits <:+ ws0)(lim:Option Nat)(H:Eu ws0 lim 1 room)(U:Es lim 0 m)(I:∀ev∈ws0,HapG K n Od room w0 mb fs nx ev)(g:nx<1099511627776)
 (v:Nat) (Y:v<n):
 Cl 38 #[Pt mb,Iv v] w (DS K n Od room w0 mb fs nx ws0 lim 1 (varF v) o w):=by
 have t:∀(fn:Fn) (first cap:Array Value) (w:Wd),(Instr.makeFunc fn first cap).run prog w=.ok (.func fn first cap) w:=λ_ _ _ _=>rfl
 obtain⟨w1,g0⟩:=Ex (w.alloc (.cells #[Iv (v:Nat)] 3));have g1:Bw w w1:=by rw[g0];exact Ag w _
 have g5:w1.heap[w.heap.size]?=some (.cells #[Iv (v:Nat)] 3 (0,0)):=by rw[g0];exact Xv w _
 have f:w1.cell? (Av w.heap.size)=some (Iv (v:Nat)):=cell1 g5;have g8:w1.heap.size=w.heap.size+1:=by rw[g0];simp
 have hw0:=h.chg.size;obtain⟨s,g6⟩:=h.is;have g3:=g6.below h.lt g1;obtain⟨A,c1,c2,z,y,u,f0⟩:=cells6 g3.blk;obtain⟨r,g2⟩:=g3.store;have g7:CG m.d v=(levN m.d v:Nat):=L3 (by rw[g2.len,h.vars];exact Y);have g9:Hq (∀n,Cl 85 #[Pt s.sb,Iv (v:Nat)] (w1.drewN n) λx w'=>x=.returned (Iv (levN m.d v:Nat))/\w1.drewN n=w'):=by
  refine Hd λn=>?_
  have:=IW (g2.below (h.lt.mono g1.size) (An w1 n)) v (by rw[g2.len];have:=h.ok.store.small;omega);rw[g7]at this;exact this
 obtain⟨P,X⟩:=Ex (DS K n Od room w0 mb fs nx ws0 lim 1 (varF v) o w);have j:Hq (∀q,Cl 86 #[Pt mb,.func (.func 87) #[] #[Pt w.heap.size]] (w1.drewN q) P):=by
  refine Hd λq=>?_
  rw[X];have g4:Bw w (w1.drewN q):=g1.trans ((An w1 q).mono g1.size);refine(Jl e B1.keep (λ_ _ _ _ _ h _=>h) StL.coll ?_ Rr (RO e ws0 lim H I v w.heap.size Y) (h.below g4) ⟨f⟩ ?_ ⟨O,U⟩ g).mono λx w' i=>LU g4 ?_ i
  . rintro c rfl;omega
  . rintro c rfl;exact⟨by have:=g4.size;show w.heap.size<w1.heap.size;omega,h.lt.none (by omega)⟩
  . rintro c rfl;omega
 have l:Hq (∀x w',P x w'->∃a b,x=.returned (.tuple #[Iv a,Iv b])):=by
  refine Hd ?_;rw[X];rintro x w' ⟨_,_,_,_,_,(⟨rfl,_⟩|⟨rfl,_⟩)⟩
  . exact⟨_,_,rfl⟩
  . exact⟨_,_,rfl⟩
 rw[<-X];have k:Hq (w.alloc (.cells #[Iv (v:Nat)] 3)=w1):=Hd g0.symm;clear g3 g2 g7 g6 g1 g5 g0 e g Y O I h hw0 g8 X H U
 go_enter func38,ntmps38
 go_upto_region 3 with fail;rw[k.o]
 go_quiet (with_reducible exact CF (g9.o _))
 go_wp2_with fail;refine(j.o _).mono ?_;intro x w' Z;obtain⟨a,b,rfl⟩:=l.o x w' Z;have p:=Hd Z;clear Z;go_wp2_with fail;exact p.o
open Go.RowKit Go.Shelf
section
variable {F:Fence}{α:Type}
def LW (F:Fence)(n d:Nat)(P:Program)(g:Nat)(lb:Array Value)(encs:α->Array Value)(n₀:Nat)(I:Nat->Prop)(Good:List α->Prop)(w:Wd):Prop:=
 ∀(l:Nat) (J:List α->(Nat->Prop)->Wd->Prop) (M:Nat->Prop) (W:Wd),G4 n₀ J->Minds n₀ J->Wr (λk=>n₀<=k/\¬ I k) w W->(∀k,I k->¬ M k) ->
  (∀pre x M W1,J pre M W1->(∃H,Good (pre++x::H))->YieldAt F (n-1-d) P l (encs x) W1 λe W'=>
   e=.returned (.bool true)/\∃M',J (pre++[x]) M' W'/\Wr M W1 W'/\∀k,M' k->M k\/W1.heap.size<=k) ->
  J [] M W ->
  CallsIn F n P g (#[.func (.yield l) #[] #[]]++lb) W λe W'=>(∃v,e=.returned v)/\∃xs M',Good xs/\J xs M' W'/\Wr (λk=>n₀<=k) W W'/\∀k,M' k->M k\/W.heap.size<=k
theorem RQ {g:Operand}{ps:Array Tmp}{assign body:Code}(A:F.round=none)(h1:1<=n){lb:Array Value}(hg:a.eval g=.func (.func gf) #[] lb)
 (G:F.fn gf) (eg:∀args w,(callFunc gf args).run P w=.ok (.enter gf args) w) {encs:α->Array Value} {n₀:Nat} {R:Nat->Prop} {Good:List α->Prop} {d:Nat} (q:LW F (n-1) d P gf lb encs n₀ R Good w) (C:n₀<=w.heap.size)
 (J:∀k,R k->k<w.heap.size) (B:∀x,(encs x).size=ps.size) (I:List α->(Nat->Prop)->Wd->Prop) (s:G4 n₀ I) (O:Minds n₀ I) (c:Nat->Prop) (E:∀k,R k->¬ c k) (h0:I [] c w)
 (y:α->Act->Wd->Wd->Prop) (L:∀x X W W1 W2 l,l<W.heap.size->y x X W W1->Wr (· = l) W1 W2->y x X W W2)
 (U:∀(l:Nat) (pre:List α) (x:α) (M:Nat->Prop) (W:Wd) (K:Act->Wd->Prop),I pre M W->(∀X W',Wr (λ_=>False) W W'->y x X W W'->K X W') ->
  assign.wpIn (F.inRound l) (n-1-1-d) P (Exit.then K (λ_ _ _=>False)) { tmps:=(ps.zip (encs x)).foldl (λt (p,v)=>t.setIfInBounds p v) a.tmps,defers:=[] } W)
 (j:∀(l:Nat) (pre:List α) (x:α) (X:Act) (M:Nat->Prop) (W0 W:Wd),I pre M W->y x X W0 W->W0.heap.size<=W.heap.size->w.heap.size<=W0.heap.size->(∃z,Good (pre++x::z))->body.wpIn (F.inRound l) (n-1-1-d) P
  (λe _ W'=>match e with|.normal=>∃M',I (pre++[x]) M' W'/\Wr (λk=>M k\/W0.heap.size<=k) W W'/\(∀k,M' k->M k\/W0.heap.size<=k)|_=>False) X W)
 (i:∀(xs:List α) (D:Nat) (M:Nat->Prop) (W:Wd),Good xs->w.heap.size<=D->¬ M D->I xs M W->(∀k,M k->c k\/w.heap.size<=k)->Wr (λk=>n₀<=k) w W->W.heap[D]?=some (.deferred (some []))->Q .normal { a with defers:={ target:=.collected D,args:=#[] }::a.defers } W):
 (Code.rangeFunc g ps assign body).wpIn F n P Q a w:=by
 refine wpIn_rangeFunc ?_;intro fn gn;rw[A]
 let rec0:LoopState->Loop:=λst=>{ state:=st,pending:=none,fn,tmps:=a.tmps,params:=ps,assign,body,defers:=w.heap.size }
 obtain⟨W1,g1⟩:=Ex ((w.alloc (.deferred (some []))).alloc (.loop (rec0 .ready)));have gt:W1.heap[w.heap.size+1]?=some (.loop (rec0 .ready)):=by
  rw[g1];have:=World.alloc_heap_new (w.alloc (.deferred (some []))) (.loop (rec0 .ready))
  rwa [X3]at this
 have gv:W1.heap[w.heap.size]?=some (.deferred (some [])):=by
  rw[g1];exact(Yt _ _ _ (by simp)).trans (World.alloc_heap_new w _)
 have g5:∀N:Nat->Prop,Wr N w W1:=λN=>by rw[g1];exact((Wr.refl N w).alloc _).alloc _
 have g2:=s [] c w h0;have gu:I [] c W1:=O _ _ _ _ h0 (g5 _)
 refine⟨w.heap.size+1,[{ target:=.collected w.heap.size,args:=#[] }],W1,{ target:=.fn (.func gf) lb,args:=#[.func (.yield (w.heap.size+1)) #[] #[]] },W1,gf,
  #[.func (.yield (w.heap.size+1)) #[] #[]]++lb,W1,?_,?_,?_,?_,λ_=>h1,?_⟩
 . rw[g1];exact run_enterLoop_outer _ _ _ _ _
 . simp only[resolve,hg];simp[go_sem]
 . intro f' gc;simp[Target.leads]at gc;subst gc;exact G
 . simp[invoke,go_sem,eg]
 refine(q (w.heap.size+1)
  (λpre N W=>∃M,I pre M W/\(∀k,N k↔(M k\/k=w.heap.size+1\/k=w.heap.size))/\¬ M (w.heap.size+1)/\¬ M w.heap.size/\(∀k,M k->c k\/w.heap.size<=k) /\
   W.heap[w.heap.size+1]?=some (.loop (rec0 .ready))/\W.heap[w.heap.size]?=some (.deferred (some [])))
  (λk=>c k\/k=w.heap.size+1\/k=w.heap.size) W1 ?_ ?_ (g5 _) ?_ ?_ ?_).mono ?_
 ·rintro pre N W ⟨M,hi,H,_,_,_,hl,Y⟩ k hk;rcases(H k).1 hk with hk|hk|hk
  . exact s _ _ _ hi k hk
  . subst hk;exact⟨by omega,(Xt.1 hl).1⟩
  . subst hk;exact⟨C,(Xt.1 Y).1⟩
 ·rintro pre N W W' ⟨M,hi,H,h2,h3,u,hl,Y⟩ f;refine⟨M,O _ _ _ _ hi ?_,H,h2,h3,u,?_,?_⟩
  . exact⟨f.os,f.tape,f.output,f.size,λk hk hn=>f.keep k hk (λ⟨a,b⟩=>hn ⟨a,λe=>b ((H k).2 (.inl e))⟩)⟩
  . exact(f.keep _ (Xt.1 hl).1 (λ⟨_,b⟩=>b ((H _).2 (.inr (.inl rfl))))).trans hl
  . exact(f.keep _ (Xt.1 Y).1 (λ⟨_,b⟩=>b ((H _).2 (.inr (.inr rfl))))).trans Y
 ·intro k hk r;have:=J k hk;rcases r with r|r|r
  . exact E k hk r
  . omega
  . omega
 ·rintro pre x N W ⟨M,hi,H,h2,h3,u,hl,Y⟩ gd;have T:w.heap.size+1<W.heap.size:=(Xt.1 hl).1;have V:=run_yield (P:=P) (args:=encs x) hl (B x);refine⟨fn,_,assign,body,V,roundIn_of_wpIn gn (U _ pre x M W _ hi ?_)⟩;intro X Z g0 gr;have gj:=(g0.keep _ T (λh=>h)).trans hl;have gp:=(g0.keep _ (by omega) (λh=>h)).trans Y;have g6:w.heap.size+1<Z.heap.size:=by have:=g0.size;omega
  refine⟨_,run_beginRound gj rfl,?_⟩;have gl:I pre M Z:=O _ _ _ _ hi (g0.mono (λ_ h=>h.elim));have g8:Wr (· = w.heap.size+1) Z (Z.putObj (w.heap.size+1) (.loop { rec0 .ready with state:=.busy })):=(Wr.refl (· = w.heap.size+1) Z).putObj (l:=w.heap.size+1) (.inl rfl) _;have gk:I pre M (Z.putObj (w.heap.size+1) (.loop { rec0 .ready with state:=.busy })):=O _ _ _ _ gl (g8.mono (λk e=>by have e':k=w.heap.size+1:=e;subst e';exact⟨by omega,h2⟩));have gi:(Z.putObj (w.heap.size+1) (.loop { rec0 .ready with state:=.busy })).heap[w.heap.size+1]?=some (.loop { rec0 .ready with state:=.busy }):=aH g6;have go:(Z.putObj (w.heap.size+1) (.loop { rec0 .ready with state:=.busy })).heap[w.heap.size]?=some (.deferred (some [])):=(Yu (by omega)).trans gp;refine wpIn_mono (j _ pre x X M W _ gk (L _ _ _ _ _ _ T gr g8) (by simp;exact g0.size) (by omega) gd) ?_;intro e a3 W3 m;cases e with
  | normal=>
    obtain⟨M',gm,g4,g3⟩:=m;have S:=(g4.keep _ (by simp;exact g6) (λe=>by rcases e with e|e;exact h2 e;omega)).trans gi;have gq:=(g4.keep _ (by simp;omega) (λe=>by rcases e with e|e;exact h3 e;omega)).trans go;have ge:=(Xt.1 S).1;have g9:¬ M' (w.heap.size+1):=λe=>by rcases g3 _ e with h|h;exact h2 h;omega
    have gh:¬ M' w.heap.size:=λe=>by rcases g3 _ e with h|h;exact h3 h;omega
    refine⟨_,_,run_endRound (P:=P) none S,rfl,λk=>M' k\/k=w.heap.size+1\/k=w.heap.size,⟨M',?_,λk=>Iff.rfl,g9,gh,?_,aH ge,(Yu (by omega)).trans gq⟩,?_,?_⟩
    . exact O _ _ _ _ gm ((Wr.refl _ _).putObj (.inl ⟨by omega,g9⟩) _)
    ·intro k hk;rcases g3 k hk with h|h
     . exact u k h
     . right;omega
    ·refine((((g0.mono (N:=N) (λ_ h=>h.elim)).putObj (l:=w.heap.size+1) (.inl ((H _).2 (.inr (.inl rfl)))) _).trans (N:=N) g4 (λk _ h=>h) (λk hk h=>?_)).putObj (l:=w.heap.size+1) (.inl ((H _).2 (.inr (.inl rfl)))) _);rcases h with h|h
     . exact(H k).2 (.inl h)
     . omega
    ·rintro k (hk|hk)
     ·rcases g3 k hk with h|h
      . exact .inl ((H k).2 (.inl h))
      . exact .inr h
     . exact .inl ((H k).2 (.inr hk))
  | ret=>exact m.elim
  | exit id=>exact m.elim
  | goto t=>exact m.elim
  | panic ch=>exact m.elim
  | outgrown=>exact m.elim
 . exact⟨c,gu,λk=>Iff.rfl,λe=>by have:=(g2 _ e).2;omega,λe=>by have:=(g2 _ e).2;omega,λk h=>.inl h,gt,gv⟩
 ·rintro e W2 ⟨⟨v,rfl⟩,xs,N,g7,⟨M,hi,H,h2,h3,u,hl,Y⟩,gg,_⟩;refine⟨none,_,run_endLoop (P:=P) hl (by simp[rec0]),i xs _ M _ g7 (Xs _) h3 ?_ u ?_ ((Yu (by omega)).trans Y)⟩
  . exact O _ _ _ _ hi ((Wr.refl _ _).putObj (.inl ⟨by omega,h2⟩) _)
  . exact((g5 (λk=>n₀<=k)).trans gg (λ_ _ h=>h) (λ_ _ h=>h)).putObj (.inl (by omega)) _
end
open Go.ChangeMaps (setBlock)
def AU (q:Nat×Nat):List Value:=[Iv q.1,Iv q.2]
abbrev YT:=@List.pairwise_map
def LX {α β:Type}{f:α->β}{l:List α}(h:(l.map f).Nodup):l.Nodup:=(YT.1 h).imp λH e=>H (Yf f e)
def Js:Value->Nat
 | .int _ n=>n.toNat
 | _=>0
def unE:Value->Nat×Nat
 | .agg cs=>(Js (cs.getD 0 undef),Js (cs.getD 1 undef))
 | _=>(0,0)
def RR (q:Nat×Nat):unE (encE q)=q:=by simp[unE,encE,Js]
structure CO (es:Array MapEntry)(clock:Nat)(seen:Array Nat)(ks:List (Nat×Nat))(sl:List MapEntry):Prop where
 sub:∀e∈sl,e∈es.toList
 born:sl.map (·.born)=seen.toList
 nodup:(sl.map (·.born)).Nodup
 keys:sl.map (·.key)=ks.map encE
def CO.start (es:Array MapEntry)(clock:Nat):CO es clock #[] [] []:=⟨λ_ h=>(by cases h),rfl,List.nodup_nil,rfl⟩
def CO.next {es:Array MapEntry}{ks:List (Nat×Nat)}{H:List MapEntry}(h:CO es clock seen ks H){e:MapEntry}(U:e∈(leftOf es seen).toList){q:Nat×Nat}(O:e.key=encE q):CO es clock (seen.push e.born) (ks++[q]) (H++[e]):=by
 obtain⟨h1,h2⟩:=mem_left U;refine⟨λx hx=>?_,by simp[h.born],?_,by simp[h.keys,O]⟩
 ·rcases XD.1 hx with hx|hx
  . exact h.sub x hx
  . simp at hx;subst hx;exact h1
 ·rw[XG,Yl];refine⟨h.nodup,by simp,λa I b hb=>?_⟩;simp at hb;subst hb;rintro rfl;rw[h.born]at I;have:seen.contains e.born=true:=by simpa using I
  rw[this]at h2;cases h2
def CO.all {es:Array MapEntry}{ks:List (Nat×Nat)}{H:List MapEntry}(h:CO es clock seen ks H)(I:(es.toList.map (·.born)).Nodup)(h0:(leftOf es seen).size=0):H.Perm es.toList:=by
 have g0:=all_seen es seen h0;refine(List.perm_ext_iff_of_nodup (LX h.nodup) (LX I)).2 λe=>⟨h.sub e,λO=>?_⟩
 have h1:=g0 e O;have h2:e.born∈H.map (·.born):=by rw[h.born];simpa using h1
 obtain⟨x,hx,e1⟩:=X6.1 h2;have:x=e:=born_inj I (h.sub x hx) O e1;rw[<-this];exact hx
abbrev Y9:=@List.map_map
def CO.keysOf {w:Wd}{b:Nat}{l:List ((Nat×Nat)×Value)}{es:Array MapEntry}{ks:List (Nat×Nat)}{H:List MapEntry}(h:CO es clock seen ks H)(I:(es.toList.map (·.born)).Nodup)(h0:(leftOf es seen).size=0)
 (hl:es.toList.map (λe=>(e.key,e.val))=l.map (λp=>(encE p.1,p.2))):ks.Perm (l.map Prod.fst):=by
 have h1:(ks.map encE).Perm ((l.map Prod.fst).map encE):=by
  rw[<-h.keys];have h2:=(h.all I h0).map (λe:MapEntry=>e.key);refine h2.trans ?_;have h3:=Yf (List.map Prod.fst) hl;simp only[Y9]at h3;have e1:(es.toList.map λe:MapEntry=>e.key)=(l.map Prod.fst).map encE:=by
   rw[Y9];exact h3
  rw[e1]
 have h2:=h1.map unE;simpa [Y9,Function.comp_def,RR]using h2
def RS:(prog.info? 239).map (λi=>(i.zero,i.size,i.bytes))=some (some (.agg #[Iv 0,Iv 0]),2,16):=by kernel_rfl
structure KeyS (W0:Wd)(mb r clock:Nat)(es:Array MapEntry)(seen:Array Nat)(ks:List (Nat×Nat))(sl:List MapEntry)(v:Value)(oG:Own)(wr:Wd):Prop where
 low:Bw W0 wr
 it:wr.heap[r]?=some (.mapIter (some mb) clock seen clock)
 came:CO es clock seen ks sl
 row:RowR oG wr .slots 239 2 v ks.length (ks.flatMap AU)
 lt:Ac oG wr
 ge:∀k q,oG k=some q->q=.slots/\W0.heap.size<=k
 no:oG r=none
 cnt:ks.length+(leftOf es seen).size<=es.size
def KeyS.next {W0:Wd}{mb r clock:Nat}{es:Array MapEntry}{seen:Array Nat}{ks:List (Nat×Nat)}{b:List MapEntry}{v v':Value}{oG o1:Own}{wr w1 w2 a Y:Wd}(h:KeyS W0 mb r clock es seen ks b v oG wr)(i:W0.heap.size<=r){e:MapEntry}(c:e∈(leftOf es seen).toList){q:Nat×Nat}(k:e.key=encE q)
 (I:w1=wr\/w1=wr.drew) (H:w2=setBlock w1 r (.mapIter (some mb) clock (seen.push e.born) clock)) (O:Bw w2 a)
 (j:RowR o1 Y .slots 239 2 v' (ks.length+1) (ks.flatMap AU++AU q)) (X:Chg (· = .slots) oG o1 a Y) (hl:Ac o1 Y):
 KeyS W0 mb r clock es (seen.push e.born) (ks++[q]) (b++[e]) v' o1 Y:=by
 have g0:r<wr.heap.size:=(Xt.1 h.it).1;have z2:w2.heap.size=wr.heap.size:=by rw[H];rcases I with rfl|rfl<;>simp[setBlock]
 have i2:w2.heap[r]?=some (.mapIter (some mb) clock (seen.push e.born) clock):=by rw[H];rcases I with rfl|rfl<;>simp[setBlock,g0]
 have k2:∀g,g≠r->w2.heap[g]?=wr.heap[g]?:=λg U=>by
  rw[H];rcases I with rfl|rfl<;>simp[setBlock,ZG,Ye U]<;>rfl
 have b2:Bw W0 w2:=h.low.trans ⟨by rw[H];rcases I with rfl|rfl<;>rfl,by rw[H];rcases I with rfl|rfl<;>rfl,by rw[H];rcases I with rfl|rfl<;>rfl,by omega,λg U=>k2 g (by omega)⟩;have f:∀g,g<W0.heap.size->oG g=none:=λg U=>by
  cases Z:oG g with
  | none=>rfl
  | some r=>have:=(h.ge g r Z).2;omega
 have l:=h.low.size;have d:=b2.trans (O.mono (by omega));refine⟨d.trans ⟨X.os,X.tape,X.output,X.size,λg U=>X.alien (by have:=d.size;omega) (f g U)⟩,?_,h.came.next c k,by simpa using j,hl,λg q U=>?_,X.alien' (by have:=O.size;omega) h.no,by have h1:=left_shrinks es seen e c;have h2:=h.cnt;simp;omega⟩
 . rw[X.alien (by have:=O.size;omega) h.no,O.block r (by omega)];exact i2
 ·by_cases Z:o1 g=oG g
  . rw[Z]at U;exact h.ge g q U
  ·obtain⟨m,p,a2,a3⟩:=X.new g Z;rw[U]at a2;cases a2
   have:=O.size;exact⟨a3,by omega⟩
def KeyS.row3 {es:Array MapEntry}{ks:List (Nat×Nat)}{Y:List MapEntry}{X:Wd}(h:KeyS W0 mb r clock es seen ks Y v oG wr){x:Obj}(I:w1=wr\/w1=wr.drew)(H:w2=setBlock w1 r x)(U:Bw w2 X):
 RowR oG X .slots 239 2 v ks.length (ks.flatMap AU)/\Ac oG X:=by
 have z2:w2.heap.size=wr.heap.size:=by rw[H];rcases I with rfl|rfl<;>simp[setBlock]
 have k2:∀g,g≠r->w2.heap[g]?=wr.heap[g]?:=λg O=>by
  rw[H];rcases I with rfl|rfl<;>simp[setBlock,ZG,Ye O]<;>rfl
 refine⟨h.row.keep (λg O=>?_) (λ_ h=>h),h.lt.mono (by have:=U.size;omega)⟩;have h1:=h.lt g _ O;rw[U.block g (by omega)];exact k2 g (by rintro rfl;rw[h.no]at O;cases O)
end Go.Proofs.YtnphndlbfeagbaaGreat

namespace Go.Proofs
open Go.Proofs.Tryz
open Go.Shelf
def Tryz.sortKeys_ren:Go.Shelf.Ren:=⟨λ|6=>186|15=>193|14=>192|28=>204|29=>205|20=>196|21=>197|22=>198|23=>199|24=>200|25=>201|26=>202|27=>203|46=>206|47=>207|48=>208|49=>209|50=>210|57=>211|n=>n,λ|22=>255|24=>239|25=>267|3=>3|39=>137|0=>0|53=>136|55=>67|4=>4|46=>273|45=>272|50=>89|5=>5|9=>9|66=>280|70=>284|76=>286|77=>138|n=>n,λ|n=>n⟩
def Tryz.sortKeys:Go.Proofs.SlLaysF0.n6 prog Tryz.sortKeys_ren:={
 mixed:=by kernel_rfl
 f6:=⟨Tryz.f186.name,by decide,func186.trans (congrArg some (by kernel_rfl))⟩
 f14:=⟨Tryz.f192.name,by decide,func192.trans (congrArg some (by kernel_rfl))⟩
 f15:=func193.trans (congrArg some (by kernel_rfl))
 f20:=⟨Tryz.f196.name,by decide,func196.trans (congrArg some (by kernel_rfl))⟩
 f21:=⟨Tryz.f197.name,by decide,func197.trans (congrArg some (by kernel_rfl))⟩
 f22:=⟨Tryz.f198.name,by decide,func198.trans (congrArg some (by kernel_rfl))⟩
 f23:=⟨Tryz.f199.name,by decide,func199.trans (congrArg some (by kernel_rfl))⟩
 f24:=⟨Tryz.f200.name,by decide,func200.trans (congrArg some (by kernel_rfl))⟩
 f25:=⟨Tryz.f201.name,by decide,func201.trans (congrArg some (by kernel_rfl))⟩
 f26:=⟨Tryz.f202.name,by decide,func202.trans (congrArg some (by kernel_rfl))⟩
 f27:=⟨Tryz.f203.name,by decide,func203.trans (congrArg some (by kernel_rfl))⟩
 f28:=func204.trans (congrArg some (by kernel_rfl))
 f29:=func205.trans (congrArg some (by kernel_rfl))
 f46:=⟨Tryz.f206.name,by decide,func206.trans (congrArg some (by kernel_rfl))⟩
 f47:=func207.trans (congrArg some (by kernel_rfl))
 f48:=func208.trans (congrArg some (by kernel_rfl))
 f49:=⟨Tryz.f209.name,by decide,func209.trans (congrArg some (by kernel_rfl))⟩
 f50:=⟨Tryz.f210.name,by decide,func210.trans (congrArg some (by kernel_rfl))⟩
 f57:=⟨Tryz.f211.name,by decide,func211.trans (congrArg some (by kernel_rfl))⟩
 t0:=underlying0
 a0:=Tryz.isAgg0
 z0:=Tryz.sizeOf0
 v0:=zeroValue0
 t3:=underlying3
 a3:=Tryz.isAgg3
 z3:=Tryz.sizeOf3
 v3:=zeroValue3
 t4:=underlying4
 a4:=Tryz.isAgg4
 z4:=Tryz.sizeOf4
 v4:=zeroValue4
 t5:=underlying5
 a5:=Tryz.isAgg5
 z5:=Tryz.sizeOf5
 v5:=zeroValue5
 t9:=underlying9
 a9:=Tryz.isAgg9
 z9:=Tryz.sizeOf9
 v9:=zeroValue9
 t22:=underlying255
 a22:=Tryz.isAgg255
 z22:=Tryz.sizeOf255
 v22:=zeroValue255
 t25:=underlying267
 a25:=Tryz.isAgg267
 z25:=Tryz.sizeOf267
 v25:=zeroValue267
 t39:=underlying137
 a39:=Tryz.isAgg137
 z39:=Tryz.sizeOf137
 v39:=zeroValue137
 t45:=underlying272
 a45:=Tryz.isAgg272
 z45:=Tryz.sizeOf272
 v45:=zeroValue272
 t46:=underlying273
 a46:=Tryz.isAgg273
 z46:=Tryz.sizeOf273
 v46:=zeroValue273
 t50:=underlying89
 a50:=Tryz.isAgg89
 z50:=Tryz.sizeOf89
 v50:=zeroValue89
 t53:=underlying136
 a53:=Tryz.isAgg136
 z53:=Tryz.sizeOf136
 v53:=zeroValue136
 t55:=underlying67
 a55:=Tryz.isAgg67
 z55:=Tryz.sizeOf67
 v55:=zeroValue67
 t66:=underlying280
 a66:=Tryz.isAgg280
 z66:=Tryz.sizeOf280
 v66:=zeroValue280
 t70:=underlying284
 a70:=Tryz.isAgg284
 z70:=Tryz.sizeOf284
 v70:=zeroValue284
 t76:=underlying286
 a76:=Tryz.isAgg286
 z76:=Tryz.sizeOf286
 v76:=zeroValue286
 t77:=underlying138
 a77:=Tryz.isAgg138
 z77:=Tryz.sizeOf138
 v77:=zeroValue138 }
def Tryz.cmpInt_ren:Go.Shelf.Ren:=⟨λ|5=>189|7=>194|n=>n,λ|22=>3|3=>3|4=>4|n=>n,λ|n=>n⟩
def Tryz.cmpInt:Go.Proofs.SlLaysC2.n5 prog Tryz.cmpInt_ren:={
 mixed:=by kernel_rfl
 f5:=⟨Tryz.f189.name,by decide,func189.trans (congrArg some (by kernel_rfl))⟩
 f7:=⟨Tryz.f194.name,by decide,func194.trans (congrArg some (by kernel_rfl))⟩
 t3:=underlying3
 a3:=Tryz.isAgg3
 z3:=Tryz.sizeOf3
 v3:=zeroValue3
 t4:=underlying4
 a4:=Tryz.isAgg4
 z4:=Tryz.sizeOf4
 v4:=zeroValue4
 t22:=underlying3
 a22:=Tryz.isAgg3
 z22:=Tryz.sizeOf3
 v22:=zeroValue3 }
def Tryz.cmpEdge_ren:Go.Shelf.Ren:=⟨λ|5=>190|7=>195|n=>n,λ|22=>107|3=>3|4=>4|n=>n,λ|n=>n⟩
def Tryz.cmpEdge:Go.Proofs.SlLaysC2.n5 prog Tryz.cmpEdge_ren:={
 mixed:=by kernel_rfl
 f5:=⟨Tryz.f190.name,by decide,func190.trans (congrArg some (by kernel_rfl))⟩
 f7:=⟨Tryz.f195.name,by decide,func195.trans (congrArg some (by kernel_rfl))⟩
 t3:=underlying3
 a3:=Tryz.isAgg3
 z3:=Tryz.sizeOf3
 v3:=zeroValue3
 t4:=underlying4
 a4:=Tryz.isAgg4
 z4:=Tryz.sizeOf4
 v4:=zeroValue4
 t22:=underlying107
 a22:=Tryz.isAgg107
 z22:=Tryz.sizeOf107
 v22:=zeroValue107 }
end Go.Proofs

namespace Go.Proofs.YtnphndlbfeagbaaGreat
open Go.Proofs.Tryz
open Go.RowKit Go.Shelf Go.Lib Go.Sort
variable {E:Nat->Int}{M:Nat->Prop}{N:Nat->Option BN}{P:Program}{Q:Exit->Act->Wd->Prop}{R:Role->Prop}{T:TypeId}{V V0:Nat->BF}{W W' W1 w w' w0 w1 w2 wr wx:Wd}{Wt ps:List (Nat×Nat)}{a:Act}{b e g hi i id j k lo mb n n₀ sb x y:Nat}{d d' d0:Af}{lm:List ((Nat×Nat)×Value)}{m:ManD}{o' o1 oG:Own}{s:BP}{u v v':Value}{zs:List Int}
def orI:List Int->Int
 | []=>0
 | z::zs=>if z=0 then orI zs else z
def RT (hk:k<zs.length):orI (zs.drop k)=if at0 zs k=0 then orI (zs.drop (k+1))else at0 zs k:=by
 rw[A8 hk,Yc hk];rfl
def RU (a:Option Addr)(c:Nat)(zs:List Int)(w:Wd)(U:Aj w a zs)(hl:zs.length<=1000000):
 Cl 188 #[.slice a zs.length c] w λx w'=>x=.returned (Iv (orI zs))/\w'=w:=by
 have Z:=Hd U;clear U
 go_enter func188,ntmps188
 go_wp2
 go_loopw [8] (λO wr=>∃k:Nat,k<=zs.length/\O=Iv k/\w=wr/\orI zs=orI (zs.drop k)) (λO _=>zs.length-(intOf O).toNat)
 case atStart=>exact⟨0,X0 _,rfl,rfl,rfl⟩
 case round=>
  obtain⟨k,hk,rfl,rfl,H⟩:=hrel
  by_cases g0:k<zs.length
  ·obtain⟨b,off,Y,X⟩:=Z.o.cells k g0;subst Y;have g2:(k:Int)<zs.length:=by omega
   have hs:=RT g0
   by_cases h0:at0 zs k=0
   ·rw[Xx h0]at hs;rw[h0]at X;have I:=Hd (H.trans hs);clear H hs h0;go_wp2;go_roundw
    case rel=>exact⟨k+1,by omega,by go_num,trivial,I.o⟩
    case measure=>simp[intOf];omega
   ·rw[Xu h0]at hs;have I:=Hd (H.trans hs);have g1:(at0 zs k == (0:Int))=false:=by simpa using h0
    clear H hs h0
    generalize at0 zs k=z at X g1 I
    go_wp2;go_ret;exact⟨by rw[I.o];rfl,rfl⟩
  ·obtain rfl:k=zs.length:=by omega
   have I:Hq (orI zs=0):=by
    refine Hd ?_
    show _=_
    rw[H];simp[orI]
   clear H;go_wp2;go_ret;exact⟨by rw[I.o];rfl,rfl⟩
def cfK (f:Nat×Nat->Option Nat)(x y:Nat×Nat):Int:=orI [compareInt ((f x).getD 0:Nat) ((f y).getD 0:Nat),compareInt x.1 y.1,compareInt x.2 y.2]
def ltK (f:Nat×Nat->Option Nat)(x y:Nat×Nat):ltOf (cfK f) x y=decide ((f x).getD 0<(f y).getD 0\/(f x).getD 0=(f y).getD 0/\(x.1<y.1\/x.1=y.1/\x.2<y.2)):=by
 unfold ltOf cfK
 generalize (f x).getD 0=a
 generalize (f y).getD 0=b
 obtain⟨U,O⟩:=x;obtain⟨I,H⟩:=y;have c:∀p q:Nat,compareInt (p:Int) (q:Int)=if p<q then -1 else if p=q then 0 else 1:=λp q=>by
  unfold compareInt
  by_cases h1:p<q
  . rw[Xx (by omega),Xx h1]
  ·by_cases h2:p=q
   . rw[Xu (by omega),Xu (by omega),Xu h1,Xx h2]
   . rw[Xu (by omega),Xx (by omega),Xu h1,Xu h2]
 simp only[c,orI]
 by_cases h1:a<b
 . simp[h1]
 ·by_cases h2:a=b
  ·subst h2
   by_cases h3:U<I
   . simp[h3]
   ·by_cases Z:U=I
    ·subst Z
     by_cases Y:O<H
     . simp[Y]
     ·by_cases X:O=H
      . subst X;simp
      . simp[Y,X]
    . simp[h3,Z]
  . simp[h1,h2]
def swoK (f:Nat×Nat->Option Nat):SWO (ltOf (cfK f)) where
 irrefl x:=by rw[ltK];simp
 trans x y z h1 h2:=by rw[ltK]at *;simp at *;omega
 ntrans x y z h1 h2:=by rw[ltK]at *;simp at *;omega
def RW (f:Nat×Nat->Option Nat)(x y:Nat×Nat)(d t mb:Nat)(W:Wd)(Z:W.cell? (Av d)=some (Pt t))(Y:W.cell? (Av t)=some (.map (some mb)))
 (H:∀W' k,Bw W W'->(Instr.lookup 220 (.map (some mb)) (.agg #[Iv (k:Nat×Nat).1,Iv k.2]) false).run prog W'=.ok (Iv ((f k).getD 0:Nat)) W'):
 Cl 187 #[.agg #[Iv x.1,Iv x.2],.agg #[Iv y.1,Iv y.2],Pt d] W λe w'=>e=.returned (Iv (cfK f x y))/\∃q I,w'=grow (W.drewN q) I:=by
 obtain⟨W1,g2⟩:=Ex ((W.alloc (.cells #[Iv x.1,Iv x.2] 239)).alloc (.cells #[Iv y.1,Iv y.2] 239));have g0:Bw W W1:=by rw[g2];exact(Ag _ _).alloc (by simp) _
 have g5:W1.heap[W.heap.size]?=some (.cells #[Iv x.1,Iv x.2] 239 (0,0)):=by rw[g2];exact(Yt _ _ _ (by simp)).trans (Xv W _)
 have g4:W1.heap[W.heap.size+1]?=some (.cells #[Iv y.1,Iv y.2] 239 (0,0)):=by
  rw[g2];have:=Xv (W.alloc (.cells #[Iv x.1,Iv x.2] 239)) (.cells #[Iv y.1,Iv y.2] 239)
  rwa [X3]at this
 obtain⟨u,r,_⟩:=cells2 g5;obtain⟨n,l,_⟩:=cells2 g4;have b1:=Cq g0 Z;have t1:=Cq g0 Y;obtain⟨i,hi⟩:=Ex (compareInt ((f x).getD 0:Nat) ((f y).getD 0:Nat):Int);obtain⟨j,O⟩:=Ex (compareInt x.1 y.1:Int);obtain⟨k,hk⟩:=Ex (compareInt x.2 y.2:Int);have g6:cfK f x y=orI [i,j,k]:=by unfold cfK;rw[hi,O,hk]
 obtain⟨W2,g3⟩:=Ex (W1.drew.alloc (.cells #[Iv i,Iv j,Iv k] 3));have g1:Bw W1 W2:=by rw[g3];exact(An W1 1).alloc (Xs _) _
 have C:=H W1.drew x (g0.trans ((An W1 1).mono g0.size));have A:=H W1.drew y (g0.trans ((An W1 1).mono g0.size));have B:=H W2 x (g0.trans (g1.mono g0.size));have z:=H W2 y (g0.trans (g1.mono g0.size));have s:=Cq g1 u;have p:=Cq g1 r;have m:=Cq g1 n;have g:=Cq g1 l;have b2:=Cq g1 b1;have t2:=Cq g1 t1;have c:=Hd (λw=>AnyG.cmp_Compare_int Tryz.cmpInt ((f x).getD 0:Nat) ((f y).getD 0:Nat) w);have b:=Hd (λw=>AnyG.cmp_Compare_int Tryz.cmpEdge x.1 y.1 w);have a:=Hd (λw=>AnyG.cmp_Compare_int Tryz.cmpEdge x.2 y.2 w)
 have g8:Hq (Cl 188 #[.slice (some (Av W1.drew.heap.size)) 3 3] W2 λe w'=>e=.returned (Iv (orI [i,j,k]))/\w'=W2):=Hd (RU _ 3 [i,j,k] W2 ⟨by simp,λq X=>⟨_,0,rfl,by
  rw[XO,g3,Xw _ _ _ _ _ _ (Xv W1.drew _)];simp only[XL,Y2]at X
  match q,X with
  | 0,_=>rfl
  | 1,_=>rfl
  | 2,_=>rfl⟩⟩ (by simp))
 have HW1:Hq (_=W1):=Hd g2.symm;have g7:Hq (_=W2):=Hd g3.symm;have g9:Hq (W2=grow (W.drewN 1) #[.cells #[Iv x.1,Iv x.2] 239,.cells #[Iv y.1,Iv y.2] 239,.cells #[Iv i,Iv j,Iv k] 3]):=Hd (by rw[g3,g2,G7,G7,alloc_eq_grow,alloc_eq_grow,alloc_eq_grow,grow_grow,grow_grow];rfl);rw[<-hi]at c;rw[<-O]at b;rw[<-hk]at a;rw[g6];clear g2 g3 g0 g1 H Z Y hi O hk g6 g5 g4
 go_enter func187,ntmps187
 go_upto_region 1 with fail;rw[HW1.o];refine AJ (λW:Wd=>W=W1.drew\/W=W2) false 26 [(0,false),(1,false),(2,false),(3,false),(4,false),(5,false),(6,false),(7,false),(8,false),(9,false),(10,false),(11,false),(13,false),(14,false),(15,false),(16,false),(18,false),(19,false),(20,false),(21,false),(12,true),(17,true),(22,true),(23,true),(24,true),(25,false)] (by kernel_rfl) (by kernel_rfl) (.inl rfl) ?_;simp only[planned,AI]
 iterate 20
  refine A0 rfl ?_;apply Exists.intro;refine⟨λw' U=>?_,?_⟩
  ·rcases U with rfl|rfl
   . go_simp;rfl
   ·go_simp
    all_goals (try rfl)
  simp only[Ab]
 refine B7 (R:=λv w'=>v=Iv i/\w'=W1.drew) rfl (by go_simp;rfl) ((c.o _).mono (λe w' h=>⟨_,h.1,.inl h.2,rfl,h.2⟩)) ?_;rintro _ w' _ ⟨rfl,rfl⟩;simp only[Ab];refine B7 (R:=λv w'=>v=Iv j/\w'=W1.drew) rfl (by go_simp;rfl) ((b.o _).mono (λe w' h=>⟨_,h.1,.inl h.2,rfl,h.2⟩)) ?_;rintro _ w' _ ⟨rfl,rfl⟩;simp only[Ab];refine B7 (R:=λv w'=>v=Iv k/\w'=W1.drew) rfl (by go_simp;rfl) ((a.o _).mono (λe w' h=>⟨_,h.1,.inl h.2,rfl,h.2⟩)) ?_;rintro _ w' _ ⟨rfl,rfl⟩;simp only[Ab];refine Fq rfl (λK D=>?_);unfold Oper.wp;go_simp;rw[G7,g7.o];refine D _ _ (.inr rfl) ?_;refine B7 (R:=λv w'=>v=Iv (orI [i,j,k])/\w'=W2) rfl (by go_simp) (g8.o.mono (λe w' h=>⟨_,h.1,.inr h.2,rfl,h.2⟩)) ?_;rintro _ w' _ ⟨rfl,rfl⟩;simp only[Ab];refine A0 rfl ?_;apply Exists.intro;refine⟨λw' U=>?_,?_⟩
 . go_simp;rfl
 simp only[Ab];refine B6 ?_;go_wp2;go_ret;exact⟨rfl,_,_,g9.o⟩
def Jt (w:Wd)(blk m:Nat)(O:Array (Nat×Nat))(os:Array Obj)(I:g<w.heap.size)(H:g≠blk):(sortWorldK AU 2 w blk 0 m O os).heap[g]?=w.heap[g]?:=by
 unfold sortWorldK grow putRowK putRow mapBlock;simp[Array.getElem?_append,Zv,Array.getElem_modify,I,Ye H]
def LY (w:Wd)(blk m:Nat)(H:Array (Nat×Nat))(os:Array Obj):w.heap.size<=(sortWorldK AU 2 w blk 0 m H os).heap.size:=by
 have h:(sortWorldK AU 2 w blk 0 m H os).heap.size=w.heap.size+os.size:=by
  unfold sortWorldK grow putRowK;simp
 omega
theorem LZ {f:Nat×Nat->Option Nat}(h:Au w mb encE lm)(H:∀k,getL lm k=(f k).map (λ(id:Nat)=>Value.int .i64 id))(k:Nat×Nat):
 (Instr.lookup 220 (.map (some mb)) (.agg #[Iv k.1,Iv k.2]) false).run prog w=.ok (Iv ((f k).getD 0:Nat)) w:=by
 have h1:=h.lookup DI underlying220 zeroValue3 k false;rw[H k]at h1;cases hk:f k with
 | none=>rw[hk]at h1;exact h1
 | some id=>rw[hk]at h1;exact h1
theorem RX {f:Nat×Nat->Option Nat}{ks:List (Nat×Nat)}{I t blk cap:Nat}(hH:HoldsK AU 2 w blk 0 ks.toArray)(H:blk<w.heap.size)(b:ks.length<1000000000)
 (B:w.cell? (Av I)=some (Pt t)) (A:w.cell? (Av t)=some (.map (some mb))) (X:Au w mb encE lm) (z:∀k,getL lm k=(f k).map (λ(id:Nat)=>Value.int .i64 id)) (q:I≠blk) (l:t≠blk) (j:mb≠blk):
 Cl 186 #[.slice (some (Av blk)) ks.length cap,.func (.func 187) #[] #[Pt I]] w λe w'=>e=.returned (.tuple #[])/\∃U:List (Nat×Nat),U.Perm ks/\HoldsK AU 2 w' blk 0 U.toArray/\w.heap.size<=w'.heap.size/\w'.os=w.os/\w'.tape=w.tape/\w'.output=w.output/\∀g,g<w.heap.size->g≠blk->w'.heap[g]?=w.heap[g]?:=by
 have g1:CmpLays prog 187 #[Pt I] AU 2 (cfK f) blk 0 ks.toArray.size w:=by
  intro m os Y hs x y;have hk:∀{p:Addr} {v:Value},w.cell? p=some v->p.block≠blk->(sortWorldK AU 2 w blk 0 m Y os).cell? p=some v:=λd s=>(XR (w:=w) (Jt w blk m Y os (Ad d) s)).trans d
  refine RW f x y I t mb _ (hk B q) (hk A l) (λW' k hb=>?_);obtain⟨es,c,g3,rest⟩:=X.ex;refine LZ (lm:=lm) ⟨⟨es,c,Eq.trans ?_ g3,rest⟩,X.nodup⟩ z k;exact(hb.block mb (X5 X.lt (LY w blk m Y os))).trans (Jt w blk m Y os X.lt j)
 have g0:=AnyQ.slices_SortFunc Tryz.sortKeys 2 Tryz.isAgg239 Tryz.sizeOf239 AU (λ_=>rfl) (λx v a=>by simp[AU]at a;rcases a with rfl|rfl<;>rfl) (cfK f) (swoK f) 187 #[Pt I] blk 0 cap ks.toArray w (YF func187 (by kernel_rfl) rfl) g1 hH H (by simp;omega)
 change Cl 186 _ _ _ at g0
 have e:ks.toArray.size=ks.length:=by simp
 rw[e]at g0;refine g0.mono ?_;rintro x w' ⟨rfl,d',n,os,r,_,rfl⟩;obtain⟨i,_,Z⟩:=r;have O:d'.size=ks.length:=by simpa using i
 refine⟨rfl,d'.toList,?_,?_,LY _ _ _ _ _,rfl,rfl,rfl,λg u g2=>Jt _ _ _ _ _ u g2⟩
 ·have h:d'.extract 0 ks.length=d':=by rw[<-O];simp
  rw[h]at Z;simpa using Z
 . have h1:HoldsK AU 2 (Sort.ahead w n) blk 0 ks.toArray:=hH;have h2:=holdsK_putRowK AU 2 (Sort.ahead w n) blk 0 ks.toArray d' h1 (by simpa using O);have h3:=holdsK_grow AU 2 (putRowK AU 2 (Sort.ahead w n) blk 0 d') os blk 0 d' (by simp[putRowK,putRow,mapBlock,H]) h2;simpa using(show HoldsK AU 2 (sortWorldK AU 2 w blk 0 n d' os) blk 0 d' from h3)
theorem RY {f:Nat×Nat->Option Nat}{ks:List (Nat×Nat)}(H:ks.Perm (lm.map Prod.fst))(U:(lm.map Prod.fst).Nodup)(X:∀k,getL lm k=(f k).map (λ(id:Nat)=>Value.int .i64 id)){xs:List ((Nat×Nat)×Nat)}(hx:xs=ks.map (λk=>(k,(f k).getD 0))):
 (xs.map Prod.fst).Nodup/\∀k id,(k,id)∈xs↔f k=some id:=by
 subst hx;have e:(ks.map (λk=>(k,(f k).getD 0))).map Prod.fst=ks:=by simp[Y9,Function.comp_def]
 have I:∀k,k∈ks↔f k≠none:=λk=>by
  rw[H.mem_iff];have h1:=Db (l:=lm) (k:=k);rw[X k]at h1;constructor
  . intro hk e;rw[e]at h1;obtain⟨p,g0,rfl⟩:=X6.1 hk;exact h1.1 rfl p g0 rfl
  ·intro hk
   by_cases O:k∈lm.map Prod.fst
   . exact O
   ·exfalso;have:=h1.2 (λp g0 e=>O (X6.2 ⟨p,g0,e⟩));cases h2:f k with
    | none=>exact hk h2
    | some i=>rw[h2]at this;cases this
 refine⟨by rw[e];exact H.nodup_iff.2 U,λk id=>?_⟩;simp only[X6,YN];constructor
 ·rintro⟨k0,h0,rfl,rfl⟩;cases h2:f k0 with
  | none=>exact absurd h2 ((I k0).1 h0)
  | some i=>rfl
 . intro h;exact⟨k,(I k).2 (by rw[h];simp),rfl,by rw[h];rfl⟩
abbrev YV:=@List.take_append_drop
def RZ {α:Type}{G:List α->Prop}{xs:List α}(I:G xs){x:α}(hx:xs[k]?=some x):∃H,G (xs.take k++x::H)/\xs.take (k+1)=xs.take k++[x]:=by
 obtain⟨hk,e⟩:=XI.1 hx;refine⟨xs.drop (k+1),?_,by rw[XA hk,e]⟩;have:xs.take k++x::xs.drop (k+1)=xs:=by
  rw[<-e,<-Yc hk];exact YV k xs
 rw[this];exact I
open Go.RowKit
def Ma {o:Own}(h:A3 o w sb d)(I:Ac o w)(hk:Ai d V)(f:Nat)(X:okE (Aa d) f)(v:Int):
 Cl 176 #[Pt sb,Iv f,Iv v] w (Bl (.tuple #[Iv (cofs d f v).1,Iv (cofs d f v).2]) w):=by
 have H:=Hd (G1 h I hk f X);clear h hk I X;unfold atV at H;unfold cofs;cases hb:Aa d (f/2)with
 | none=>
   rw[hb]at H;clear hb
   go_enter func176,ntmps176
   go_wp2_with fail;refine H.o.mono ?_;rintro x w' ⟨rfl,hb⟩;have O:=Hd hb;clear hb;go_wp2
   go_ret2
   exact⟨rfl,O.o⟩
 | some b=>
   rw[hb]at H;clear hb
   by_cases e:(b.v:Int)=v
   ·subst e;have U:Hq ((if(b.v:Int)=b.v then(eflip b.lo (eneg f),eflip b.hi (eneg f))else(f,f))=(eflip b.lo (eneg f),eflip b.hi (eneg f))):=by show _=_;rw[Xx rfl]
    go_enter func176,ntmps176
    go_wp2_with fail;refine H.o.mono ?_;rintro x w' ⟨rfl,hb⟩;have O:=Hd hb;clear hb;go_wp2
    go_ret2
    exact⟨by first|rfl|(rw[U.o];rfl),O.o⟩
   ·have U:Hq ((if(b.v:Int)=v then(eflip b.lo (eneg f),eflip b.hi (eneg f))else(f,f))=(f,f)):=by show _=_;rw[Xu e]
    have Y:((b.v:Int) == v)=false:=by simpa using e
    go_enter func176,ntmps176
    go_wp2_with fail;refine H.o.mono ?_;rintro x w' ⟨rfl,hb⟩;have O:=Hd hb;clear hb;go_wp2
    go_ret2
    exact⟨by first|rfl|(rw[U.o];rfl),O.o⟩
def Bd (d:Af)(k:Nat):Af:={ d with vars:=(d.vars.set k (d.vars.getD (k+1) 0)).set (k+1) (d.vars.getD k 0),level:=(d.level.set (d.vars.getD k 0) (k+1)).set (d.vars.getD (k+1) 0) k }
def G9:(prog.info? 3).map (λi=>i.size)=some 1:=by kernel_rfl
def ES {l:List Nat}(hk:k<l.length):(l.map nat64)[k]?=some (Iv (l.getD k 0:Nat)):=by
 rw[Yq,Xy hk];simp[nat64,List.getD,hk]
abbrev aK:=@IntWalk.i64_in
def Sa {o:Own}(h:Ap o w sb d s)(k:Nat)(hk:k+1<d.vars.length)(hl:d.vars.length<=64)(C:d.vars.getD k 0<d.level.length)(hb:d.vars.getD (k+1) 0<d.level.length):
 Cl 162 #[Pt s.lb,Iv k] w λx w'=>x=.returned (.tuple #[])/\Ap o w' sb (Bd d k) s/\Chg Am o o w w':=by
 obtain⟨d0,d1,_⟩:=cells2 h.lev;obtain⟨I,cv,g5,g2,_⟩:=h.vars.shape (by omega);obtain⟨H,cl,g6,g3,_⟩:=h.level.shape (by omega);have Q:=h.len;have c:=h.vars;have b:=h.level;rw[g5]at c d0;rw[g6]at b d1;have a0:=c.cell k (by simp;omega);have y:=c.cell (k+1) (by simp;omega);rw[ES (by omega)]at a0;rw[ES hk]at y;obtain⟨A,q⟩:=Ex (d.vars.getD k 0);obtain⟨B,n⟩:=Ex (d.vars.getD (k+1) 0);rw[<-q]at a0 C;rw[<-n]at y hb;have t:=b.cell A (by simpa using C);have b1:=b.cell B (by simpa using hb);rw[ES C]at t;rw[ES hb]at b1;have fv:=c.frozen;have D:=b.frozen;have gn:(k:Int)<d.vars.length:=by omega
 have gm:(k:Int)+1<d.vars.length:=by omega
 have Y:I≠s.lb:=λe=>by have:=h.ownl;rw[<-e,g2]at this;cases this
 have z:H≠s.lb:=λe=>by have:=h.ownl;rw[<-e,g3]at this;cases this
 have X:I≠H:=λe=>by rw[e,g3]at g2;cases g2
 have G:I≠sb:=λe=>by have:=h.own;rw[<-e,g2]at this;cases this
 have J:H≠sb:=λe=>by have:=h.own;rw[<-e,g3]at this;cases this
 obtain⟨LA,ga⟩:∃L,L=d.level.getD A 0:=⟨_,rfl⟩;obtain⟨LB,g9⟩:∃L,L=d.level.getD B 0:=⟨_,rfl⟩;have ge:Hq (∀w1 w2:Wd,w1.heap=w.heap->w1.os=w.os->w1.tape=w.tape->w1.output=w.output->w2=((((w1.setCell (Aw I k) (Iv B)).setCell (Aw I (k+1)) (Iv A)).setCell (Aw H A) (Iv (k+1:Nat))).setCell (Aw H B) (Iv k))->Ap o w2 sb (Bd d k) s/\Chg Am o o w w2):=by
  refine Hd ?_;rintro w1 w2 e1 e2 T S rfl;have gj:w1.heap.size=w.heap.size:=by rw[e1]
  have gf:Bw w w1:=⟨e2,T,S,by omega,λk _=>by rw[e1]⟩;have N:∀g,g≠I->g≠H->((((w1.setCell (Aw I k) (Iv B)).setCell (Aw I (k+1)) (Iv A)).setCell (Aw H A) (Iv (k+1:Nat))).setCell (Aw H B) (Iv k)).heap[g]?=w.heap[g]?:=λg m l=>by
   rw[Az l,Az l,Az m,Az m,e1]
  have k1:∀{g r},o g=some r->r ≠ .vars->r ≠ .level->((((w1.setCell (Aw I k) (Iv B)).setCell (Aw I (k+1)) (Iv A)).setCell (Aw H A) (Iv (k+1:Nat))).setCell (Aw H B) (Iv k)).heap[g]?=w.heap[g]?:=λO m l=>N _ (by rintro rfl;rw[g2]at O;cases O;exact m rfl) (by rintro rfl;rw[g3]at O;cases O;exact l rfl)
  have g7:=h.vars.keep (w':=w1) (λg _=>by rw[e1]) (λ_ h=>h);rw[g5]at g7;have R:=((((g7.stored k (Iv B)).stored (k+1) (Iv A)).setCell_other (p:=Aw H A) (by rw[g3];simp) (Iv (k+1:Nat))).setCell_other (p:=Aw H B) (by rw[g3];simp) (Iv k));have g8:=h.level.keep (w':=w1) (λg _=>by rw[e1]) (λ_ h=>h);rw[g6]at g8;have gc:=(((g8.setCell_other (p:=Aw I k) (by rw[g2];simp) (Iv B)).setCell_other (p:=(Aw I (k+1))) (by rw[g2];simp) (Iv A)).stored A (Iv (k+1:Nat))).stored B (Iv k)
  refine⟨⟨h.own,h.ownl,(k1 h.own (by simp) (by simp)).trans h.blk,(k1 h.ownl (by simp) (by simp)).trans h.lev,?_,?_,h.pool.keep (λg r O f=>k1 O (by rintro rfl;simp at f) (by rintro rfl;simp at f)) (λ_ _ h=>h),h.tabs.keep (λg O=>k1 O (by simp) (by simp)) (λ_ h=>h),
   λv K=>(h.tab v K).keep (λg r O f=>k1 O (by rintro rfl;simp at f) (by rintro rfl;simp at f)) (λ_ _ h=>h),h.counts.keep (λg O=>k1 O (by simp) (by simp)) (λ_ h=>h),by simp[Bd,h.len],by simp[Bd,h.tlen]⟩,?_⟩
  . rw[g5];simp only[Bd,XE,Zp,<-q,<-n];exact R
  . rw[g6];simp only[Bd,XE,Zp,<-q,<-n];exact gc
  . exact((((Chg.of_below gf Am o).setCell (p:=Aw I k) g2 (by simp[Am]) _).setCell (p:=(Aw I (k+1))) g2 (by simp[Am]) _).setCell (p:=Aw H A) g3 (by simp[Am]) _).setCell (p:=Aw H B) g3 (by simp[Am]) _
 rw[<-ga]at t;rw[<-g9]at b1;have gp:(A:Int)<d.level.length:=by omega
 have go:(B:Int)<d.level.length:=by omega
 have gq:=Hd c;have V:=Hd b;have gi:IntKind.i64.wrap ((k:Int)+1)=((k+1:Nat):Int):=by rw[aK _ (by omega)];rfl
 have gk:((k+1:Nat):Int)<d.vars.length:=by omega
 clear h g5 g6 g2 g3 q n ga g9 c b Q
 go_enter func162,ntmps162
 go_upto_region 0 with fail
 go_quiet (fail)
 go_upto_region 1 with fail;refine AJ (λW:Wd=>W.cell? (Av s.lb)=some (.slice (some (Av I)) d.vars.length cv)/\True) true 16 [(0,false),(1,false),(2,false),(3,false),(4,false),(5,false),(6,false),(7,false),(8,false),(9,false),(10,false),(11,false),(12,false),(13,false),(14,true),(15,false),(16,true)] (by kernel_rfl) (by kernel_rfl) ⟨d0,trivial⟩ ?_;simp only[planned,AI]
 iterate 14
  refine A0 rfl ?_;apply Exists.intro;refine⟨λw' Z=>?_,?_⟩
  . obtain⟨h1,_⟩:=Z;go_simp;rfl
  simp only[Ab]
 refine I9 (w':=(w.drewN nq).drew.setCell (Aw I k) (Iv B)) rfl rfl (EA (w:=(w.drewN nq).drew) G9 a0 (fv _) rfl rfl) ⟨CC (w:=(w.drewN nq).drew) d0 (.inl Y),trivial⟩ ?_;simp only[Ab]
 iterate 1
  refine A0 rfl ?_;apply Exists.intro;refine⟨λw' Z=>?_,?_⟩
  . obtain⟨h1,_⟩:=Z;go_simp;rfl
  simp only[Ab]
 refine EB (w':=((w.drewN nq).drew.setCell (Aw I k) (Iv B)).setCell (Aw I (k+1)) (Iv A)) rfl rfl (EA G9 (CC (w:=(w.drewN nq).drew) y (.inr (by omega))) ((YU _ _ _ _).trans (fv _)) rfl rfl) ?_;simp only[Ab];obtain⟨U,g4⟩:=Ex (((w.drewN nq).drew.setCell (Aw I k) (Iv B)).setCell (Aw I (k+1)) (Iv A));have e1:U.cell? (Aw s.lb 1)=some (.slice (some (Av H)) d.level.length cl):=by rw[g4];exact CC (CC (w:=(w.drewN nq).drew) d1 (.inl Y)) (.inl Y)
 have g0:U.cell? (Aw H A)=some (Iv LA):=by rw[g4];exact CC (CC (w:=(w.drewN nq).drew) t (.inl X)) (.inl X)
 have g1:U.cell? (Aw H B)=some (Iv LB):=by rw[g4];exact CC (CC (w:=(w.drewN nq).drew) b1 (.inl X)) (.inl X)
 have i:∀j,U.frozen? (Aw H j)=false:=λj=>by rw[g4];exact(YU _ _ _ _).trans ((YU _ _ _ _).trans (D j))
 have M:=Hd g4;rw[<-g4];clear g4 a0 y t b1 d0 d1 fv D;go_upto_region 2 with fail;refine AJ (λW:Wd=>W.cell? (Aw s.lb 1)=some (.slice (some (Av H)) d.level.length cl)/\True) true 16 [(0,false),(1,false),(2,false),(3,false),(4,false),(5,false),(6,false),(7,false),(8,false),(9,false),(10,false),(11,false),(12,false),(13,false),(14,true),(15,false),(16,true)] (by kernel_rfl) (by kernel_rfl) ⟨e1,trivial⟩ ?_;simp only[planned,AI]
 iterate 14
  refine A0 rfl ?_;apply Exists.intro;refine⟨λw' Z=>?_,?_⟩
  . obtain⟨h1,_⟩:=Z;go_simp;rfl
  simp only[Ab]
 refine I9 (w':=U.drew.setCell (Aw H A) (Iv (k+1:Nat))) rfl rfl (EA (w:=U.drew) G9 g0 (i _) rfl rfl) ⟨CC (w:=U.drew) e1 (.inl z),trivial⟩ ?_;simp only[Ab]
 iterate 1
  refine A0 rfl ?_;apply Exists.intro;refine⟨λw' Z=>?_,?_⟩
  . obtain⟨h1,_⟩:=Z;go_simp;rfl
  simp only[Ab]
 have a:∃u,(U.drew.setCell (Aw H A) (Iv (k+1:Nat))).cell? (Aw H B)=some u:=AZ (w:=U.drew) g1;obtain⟨u,a⟩:=a;refine EB (w':=(U.drew.setCell (Aw H A) (Iv (k+1:Nat))).setCell (Aw H B) (Iv k)) rfl rfl (EA G9 a ((YU _ _ _ _).trans (i _)) rfl rfl) ?_;simp only[Ab];go_wp2;go_end0;obtain⟨F,E⟩:=ge.o ((w.drewN nq).drew.drew) ((U.drew.setCell (Aw H A) (Iv (k+1:Nat))).setCell (Aw H B) (Iv k)) rfl rfl rfl rfl (by rw[M.o];rfl);exact⟨rfl,F,E⟩
section
variable {lev:Nat->Nat}{N0:Nat->Option BN}
def Bu (lev:Nat->Nat)(x y:Nat):Nat->Nat:=λv=>if v=x then lev y else if v=y then lev x else lev v
def isV (N:Nat->Option BN)(y e:Nat):Prop:=∃c,N (e/2)=some c/\c.v=y
def Turns (N:Nat->Option BN)(x y:Nat)(i:Nat):Prop:=∃b,N i=some b/\b.v=x/\(isV N y b.lo\/isV N y b.hi)
def lowE (n:Nat)(lev:Nat->Nat)(N:Nat->Option BN)(y e:Nat):Prop:=okE N e/\lev y<lvE n lev N e
def midE (n:Nat)(lev:Nat->Nat)(N0 N:Nat->Option BN)(x y e:Nat):Prop:=lowE n lev N0 y e\/∃c,N (e/2)=some c/\c.v=x/\¬ Turns N0 x y (e/2)
structure Bv (n:Nat)(lev:Nat->Nat)(N0:Nat->Option BN)(V0:Nat->BF)(x y:Nat)(done:Nat->Prop)(N:Nat->Option BN)(V:Nat->BF):Prop where
 n0:N 0=none
 ext:∀i,(i=0\/∃b,N0 i=some b)->V i=V0 i
 keep:∀i b,N0 i=some b->¬ done i->N i=some b
 fresh:∀i b,N i=some b->N0 i=none->b.v=x/\lowE n lev N0 y b.lo/\lowE n lev N0 y b.hi/\b.hi%2=0/\b.lo≠b.hi/\V i=iteF x (ef V0 b.hi) (ef V0 b.lo)
 dn:∀i,done i->Turns N0 x y i/\∃b,N i=some b/\b.v=y/\midE n lev N0 N x y b.lo/\midE n lev N0 N x y b.hi/\b.hi%2=0/\b.lo≠b.hi/\V0 i=iteF y (ef V b.hi) (ef V b.lo)
 xu:∀i j b,N i=some b->N j=some b->b.v=x->¬ Turns N0 x y i->¬ Turns N0 x y j->i=j
def BS (H:∀i,(i=0\/∃b,N0 i=some b)->V i=V0 i)(h:okE N0 e):ef V e=ef V0 e:=by
 funext ρ;simp only[ef,H _ h]
def Bv.start (h:Dag n lev N0 V0)(x y:Nat):Bv n lev N0 V0 x y (λ_=>False) N0 V0:=
 ⟨h.none0,λ_ _=>rfl,λ_ _ h _=>h,λi b hb H=>by(rw[H]at hb;cases hb),λ_ h=>h.elim,λi j b hi I _ _ _=>h.uniq i j b hi I⟩
variable {done:Nat->Prop}
def Bv.has (m:Bv n lev N0 V0 x y done N V){b:BN}(hb:N0 i=some b):∃H,N i=some H:=by
 by_cases I:done i
 . obtain⟨_,H,g0,_⟩:=m.dn i I;exact⟨H,g0⟩
 . exact⟨b,m.keep i b hb I⟩
theorem Bv.add (m:Bv n lev N0 V0 x y done N V){b:BN}(s:N id=none)(X:id≠0)(p:b.v=x)
 (U:lowE n lev N0 y b.lo) (Y:lowE n lev N0 y b.hi) (u:b.hi%2=0) (Z:b.lo≠b.hi) (I:∀i,¬ Turns N0 x y i->N i≠some b):
 Bv n lev N0 V0 x y done (addN N id b) (addV V id b):=by
 have g8:N0 id=none:=by
  cases e:N0 id with
  | none=>rfl
  | some c=>obtain⟨E,g6⟩:=m.has e;rw[s]at g6;cases g6
 have O:∀i,(i=0\/∃b,N0 i=some b)->i≠id:=by
  rintro i (rfl|⟨c,H⟩)
  . exact Ye X
  . rintro rfl;rw[g8]at H;cases H
 have cs:∀i c,addN N id b i=some c->(i=id/\c=b)\/(i≠id/\N i=some c):=by
  intro i c hx
  by_cases e:i=id
  . subst e;rw[Ci]at hx;exact .inl ⟨rfl,(Yr hx).symm⟩
  . rw[Bh _ e]at hx;exact .inr ⟨e,hx⟩
 have g3:∀i,(i=0\/∃b,N0 i=some b)->addV V id b i=V0 i:=λi hi=>by
  simp only[addV,Xu (O i hi)];exact m.ext i hi
 refine⟨by rw[Bh _ (Ye X)];exact m.n0,g3,?_,?_,?_,?_⟩
 . intro i c H a;rw[Bh _ (O i (.inr ⟨c,H⟩))];exact m.keep i c H a
 ·intro i c H z;rcases cs i c H with ⟨e1,e2⟩|⟨g0,gc⟩
  ·subst e1;subst e2
   exact⟨p,U,Y,u,Z,by simp only[addV,Y1,p,BS m.ext U.1,BS m.ext Y.1]⟩
  . obtain⟨h1,h2,h3,h,g,f⟩:=m.fresh i c gc z;exact⟨h1,h2,h3,h,g,by simp only[addV,Xu g0];exact f⟩
 ·intro i a;obtain⟨t,c,H,h1,h2,h3,h,g,f⟩:=m.dn i a;have g1:∀e,midE n lev N0 N x y e->midE n lev N0 (addN N id b) x y e/\ef (addV V id b) e=ef V e:=by
   rintro e (hl|⟨d,g4,B,g9⟩)
   . exact⟨.inl hl,by rw[BS g3 hl.1,BS m.ext hl.1]⟩
   ·have g0:e/2≠id:=by rintro D;rw[D,s]at g4;cases g4
    refine⟨.inr ⟨d,by rw[Bh _ g0];exact g4,B,g9⟩,?_⟩;funext ρ;simp only[ef,addV,Xu g0]
  have g7:i≠id:=O i (.inr (by obtain⟨q,w,_⟩:=t;exact⟨q,w⟩));exact⟨t,c,by rw[Bh _ g7];exact H,h1,(g1 _ h2).1,(g1 _ h3).1,h,g,by rw[(g1 _ h2).2,(g1 _ h3).2];exact f⟩
 ·intro i j c hi r A l k;rcases cs i c hi with ⟨e1,e2⟩|⟨_,g5⟩
  ·rcases cs j c r with ⟨C,_⟩|⟨_,g2⟩
   . rw[e1,C]
   . subst e2;exact absurd g2 (I j k)
  ·rcases cs j c r with ⟨_,e2⟩|⟨_,g2⟩
   . subst e2;exact absurd g5 (I i l)
   . exact m.xu i j c g5 g2 A l k
def setN (N:Nat->Option BN)(i:Nat)(b:BN):Nat->Option BN:=λj=>if j=i then some b else N j
def Bv.turn (m:Bv n lev N0 V0 x y done N V)(H:x≠y)(U:Turns N0 x y i)(Z:midE n lev N0 N x y lo)(a:midE n lev N0 N x y hi)(f:hi%2=0)(X:lo≠hi)
 (hV:V0 i=iteF y (ef V hi) (ef V lo)):Bv n lev N0 V0 x y (λj=>done j\/j=i) (setN N i ⟨y,lo,hi⟩) V:=by
 obtain⟨v,g3,ge,r⟩:=U;have U:Turns N0 x y i:=⟨v,g3,ge,r⟩;have g9:i≠0:=by
  rintro rfl;obtain⟨w,g4⟩:=m.has g3;rw[m.n0]at g4;cases g4
 have cs:∀j c,setN N i ⟨y,lo,hi⟩ j=some c->(j=i/\c=⟨y,lo,hi⟩)\/(j≠i/\N j=some c):=by
  intro j c hx
  by_cases e:j=i
  . subst e;simp only[setN,Y1,Yd]at hx;exact .inl ⟨rfl,hx.symm⟩
  . simp only[setN,Xu e]at hx;exact .inr ⟨e,hx⟩
 have g0:∀e,midE n lev N0 N x y e->midE n lev N0 (setN N i ⟨y,lo,hi⟩) x y e:=by
  rintro e (hl|⟨d,s,t,g1⟩)
  . exact .inl hl
  ·have g5:e/2≠i:=by rintro u;rw[u]at g1;exact g1 U
   exact .inr ⟨d,by simp only[setN,Xu g5];exact s,t,g1⟩
 refine⟨by simp only[setN,Xu (Ye g9)];exact m.n0,m.ext,?_,?_,?_,?_⟩
 ·intro j c I O;have g7:j≠i:=λe=>O (.inr e)
  simp only[setN,Xu g7];exact m.keep j c I (λh=>O (.inl h))
 ·intro j c I Y;rcases cs j c I with ⟨e1,_⟩|⟨_,gc⟩
  . subst e1;rw[g3]at Y;cases Y
  . exact m.fresh j c gc Y
 ·intro j O
  by_cases e:j=i
  . subst e;exact⟨U,⟨y,lo,hi⟩,by simp only[setN,Y1],rfl,g0 _ Z,g0 _ a,f,X,hV⟩
  . obtain⟨gf,c,I,h1,h2,h3,q,p,l⟩:=m.dn j (O.resolve_right e);exact⟨gf,c,by simp only[setN,Xu e];exact I,h1,g0 _ h2,g0 _ h3,q,p,l⟩
 ·intro j k c g hk g2 b tk;rcases cs j c g with ⟨e1,e2⟩|⟨_,g8⟩
  . subst e2;exact absurd g2.symm H
  ·rcases cs k c hk with ⟨e1,e2⟩|⟨_,g6⟩
   . subst e2;exact absurd g2.symm H
   . exact m.xu j k c g8 g6 g2 b tk
def Ew (lev:Nat->Nat)(x y:Nat):Bu lev x y x=lev y:=by simp[Bu]
def Ey (lev:Nat->Nat)(h:x≠y):Bu lev x y y=lev x:=by simp[Bu,Ye h]
def F7 (lev:Nat->Nat){v:Nat}(hx:v≠x)(H:v≠y):Bu lev x y v=lev v:=by simp[Bu,hx,H]
def Sb (H:lev x<lev y)(hl:lowE n lev N0 y e){c:BN}(I:N0 (e/2)=some c):c.v≠x/\c.v≠y:=by
 have:=hl.2;simp only[lvE,I]at this;exact⟨by rintro e;rw[e]at this;omega,by rintro e;rw[e]at this;omega⟩
def Bv.final (h:Dag n lev N0 V0)(hx:x<n)(p:y<n)(hl:lev y=lev x+1)(m:Bv n lev N0 V0 x y done N V)(Z:∀i,Turns N0 x y i->done i):Dag n (Bu lev x y) N V:=by
 have g5:x≠y:=by rintro rfl;omega
 have E:lev x<lev y:=by omega
 have kinds:∀i b,N i=some b->(N0 i=none/\b.v=x/\lowE n lev N0 y b.lo/\lowE n lev N0 y b.hi/\b.hi%2=0/\b.lo≠b.hi/\V i=iteF x (ef V0 b.hi) (ef V0 b.lo)) \/
  (Turns N0 x y i/\b.v=y/\midE n lev N0 N x y b.lo/\midE n lev N0 N x y b.hi/\b.hi%2=0/\b.lo≠b.hi/\V0 i=iteF y (ef V b.hi) (ef V b.lo)) \/
  (N0 i=some b/\¬ Turns N0 x y i):=by
  intro i b hb;cases e:N0 i with
  | none=>exact .inl ⟨rfl,m.fresh i b hb e⟩
  | some c=>
    right
    by_cases X:done i
    . obtain⟨f,g,g4,rest⟩:=m.dn i X;obtain rfl:g=b:=Yr (g4.symm.trans hb);exact .inl ⟨f,rest⟩
    . have:=m.keep i c e X;obtain rfl:c=b:=Yr (this.symm.trans hb);exact .inr ⟨rfl,λf=>X (Z i f)⟩
 have low:∀e,lowE n lev N0 y e->okE N e/\lvE n (Bu lev x y) N e=lvE n lev N0 e/\ef V e=ef V0 e:=by
  intro e U;refine⟨?_,?_,BS m.ext U.1⟩
  ·rcases U.1 with h0|⟨c,I⟩
   . exact .inl h0
   . obtain⟨g,g4⟩:=m.has I;exact .inr ⟨g,g4⟩
  ·rcases U.1 with h0|⟨c,I⟩
   . simp only[lvE,h0,m.n0,h.none0]
   ·have ge:=Sb E U I;have F:¬ done (e/2):=λX=>by
     obtain⟨⟨q,Y,z,_⟩,_⟩:=m.dn _ X;rw[I]at Y;cases Y;exact ge.1 z
    simp only[lvE,m.keep _ _ I F,I,F7 lev ge.1 ge.2]
 have mid:∀e,midE n lev N0 N x y e->okE N e/\lev x<lvE n (Bu lev x y) N e:=by
  rintro e (U|⟨c,I,g9,_⟩)
  . obtain⟨h1,h2,_⟩:=low e U;exact⟨h1,by rw[h2];have:=U.2;omega⟩
  . exact⟨.inr ⟨c,I⟩,by simp only[lvE,I,g9,Ew];omega⟩
 have O:∀i b e,N0 i=some b->¬ Turns N0 x y i->(e=b.lo\/e=b.hi)->okE N e/\Bu lev x y b.v<lvE n (Bu lev x y) N e/\ef V e=ef V0 e:=by
  intro i b e hb g0 U;have k:okE N0 e:=by rcases U with rfl|rfl;exact h.okLo _ _ hb;exact h.okHi _ _ hb
  have g1:lev b.v<lvE n lev N0 e:=by rcases U with rfl|rfl;exact h.lvLo _ _ hb;exact h.lvHi _ _ hb
  have G:b.v=x->¬ isV N0 y e:=λg8 C=>g0 ⟨b,hb,g8,by rcases U with rfl|rfl;exact .inl C;exact .inr C⟩
  refine⟨?_,?_,BS m.ext k⟩
  ·rcases k with h0|⟨c,I⟩
   . exact .inl h0
   . obtain⟨g,g4⟩:=m.has I;exact .inr ⟨g,g4⟩
  ·by_cases g8:b.v=x
   ·have g7:lowE n lev N0 y e:=by
     refine⟨k,?_⟩;rw[g8]at g1;rcases k with h0|⟨c,I⟩
     . simp only[lvE,h0,h.none0]at g1⊢;exact h.lt y p
     ·simp only[lvE,I]at g1⊢;have:c.v≠y:=λr=>G g8 ⟨c,I,r⟩
      have h2:lev c.v≠lev y:=λr=>this (h.inj _ _ (h.var _ _ I) p r)
      omega
    rw[(low e g7).2.1,g8,Ew];exact g7.2
   ·by_cases gf:b.v=y
    . have g7:lowE n lev N0 y e:=⟨k,by rw[gf]at g1;exact g1⟩;rw[(low e g7).2.1,gf,Ey lev g5];have:=g7.2;omega
    ·rw[F7 lev g8 gf];rcases k with h0|⟨c,I⟩
     . simp only[lvE,h0,m.n0];exact h.lt _ (h.var _ _ hb)
     ·simp only[lvE,I]at g1;have gk:=h.var _ _ I
      by_cases X:done (e/2)
      ·obtain⟨⟨q,Y,z,_⟩,g,g4,hb'y,_⟩:=m.dn _ X;rw[I]at Y;cases Y
       simp only[lvE,g4,hb'y,Ey lev g5];rw[z]at g1;exact g1
      ·simp only[lvE,m.keep _ _ I X]
       by_cases g9:c.v=x
       . rw[g9,Ew];rw[g9]at g1;omega
       ·by_cases w:c.v=y
        ·rw[w,Ey lev g5];rw[w]at g1;have h2:lev b.v≠lev x:=λr=>g8 (h.inj _ _ (h.var _ _ hb) hx r)
         omega
        . rw[F7 lev g9 w];exact g1
 refine⟨fun ρ=>by rw[m.ext 0 (.inl rfl)];exact h.one ρ,m.n0,?_,?_,?_,?_,?_,?_,?_,?_,?_,?_,?_⟩
 ·intro i b hb;rcases kinds i b hb with ⟨_,H,_⟩|⟨_,H,_⟩|⟨h0,_⟩
  . rw[H];exact hx
  . rw[H];exact p
  . exact h.var _ _ h0
 ·intro u v hu H U;have hs:∀u,u<n->Bu lev x y u=lev (if u=x then y else if u=y then x else u):=by
   intro u _;simp only[Bu];(split;· rfl);split<;>rfl
  have hb:∀u,u<n->(if u=x then y else if u=y then x else u)<n:=by
   intro u hu;(split;· exact p);(split;· exact hx);exact hu
  rw[hs u hu,hs v H]at U;have:=h.inj _ _ (hb u hu) (hb v H) U
  by_cases a:u=x
  ·rw[Xx a]at this
   by_cases b:v=x
   . rw[a,b]
   ·rw[Xu b]at this
    by_cases c:v=y
    . rw[Xx c]at this;exact absurd this.symm g5
    . rw[Xu c]at this;exact absurd this.symm c
  ·rw[Xu a]at this
   by_cases b:v=x
   ·rw[Xx b]at this
    by_cases c:u=y
    . rw[Xx c]at this;exact absurd this g5
    . rw[Xu c]at this;exact absurd this c
   ·rw[Xu b]at this
    by_cases c:u=y
    ·rw[Xx c]at this
     by_cases d:v=y
     . rw[c,d]
     . rw[Xu d]at this;exact absurd this.symm b
    ·rw[Xu c]at this
     by_cases d:v=y
     . rw[Xx d]at this;exact absurd this a
     . rw[Xu d]at this;exact this
 ·intro v H;simp only[Bu];split
  . exact h.lt y p
  ·split
   . exact h.lt x hx
   . exact h.lt v H
 ·intro i b hb;rcases kinds i b hb with ⟨_,_,g2,_⟩|⟨_,_,g2,_⟩|⟨h0,g0⟩
  . exact(low _ g2).1
  . exact(mid _ g2).1
  . exact(O i b b.lo h0 g0 (.inl rfl)).1
 ·intro i b hb;rcases kinds i b hb with ⟨_,_,_,g3,_⟩|⟨_,_,_,g3,_⟩|⟨h0,g0⟩
  . exact(low _ g3).1
  . exact(mid _ g3).1
  . exact(O i b b.hi h0 g0 (.inr rfl)).1
 ·intro i b hb;rcases kinds i b hb with ⟨_,H,g2,_⟩|⟨_,H,g2,_⟩|⟨h0,g0⟩
  . rw[H,Ew,(low _ g2).2.1];exact g2.2
  . rw[H,Ey lev g5];exact(mid _ g2).2
  . exact(O i b b.lo h0 g0 (.inl rfl)).2.1
 ·intro i b hb;rcases kinds i b hb with ⟨_,H,_,g3,_⟩|⟨_,H,_,g3,_⟩|⟨h0,g0⟩
  . rw[H,Ew,(low _ g3).2.1];exact g3.2
  . rw[H,Ey lev g5];exact(mid _ g3).2
  . exact(O i b b.hi h0 g0 (.inr rfl)).2.1
 ·intro i b hb;rcases kinds i b hb with ⟨_,_,_,_,t,_⟩|⟨_,_,_,_,t,_⟩|⟨h0,_⟩
  . exact t
  . exact t
  . exact h.reg _ _ h0
 ·intro i b hb;rcases kinds i b hb with ⟨_,_,_,_,_,gc,_⟩|⟨_,_,_,_,_,gc,_⟩|⟨h0,_⟩
  . exact gc
  . exact gc
  . exact h.ne _ _ h0
 ·intro i j b hi s;have l:∀i,N i=some b->b.v=y->(∃c,N0 i=some c)/\V0 i=iteF y (ef V b.hi) (ef V b.lo):=by
   intro i hi H;rcases kinds i b hi with ⟨_,g6,_⟩|⟨⟨q,Y,_⟩,_,_,_,_,_,hV⟩|⟨h0,g0⟩
   . rw[H]at g6;exact absurd g6.symm g5
   . exact⟨⟨q,Y⟩,hV⟩
   . refine⟨⟨b,h0⟩,?_⟩;rw[(O i b b.lo h0 g0 (.inl rfl)).2.2,(O i b b.hi h0 g0 (.inr rfl)).2.2,<-H];exact h.eqn _ _ h0
  have B:b.v=x->∀i,N i=some b->¬ Turns N0 x y i:=by
   intro H i hi f;obtain⟨_,g,g4,hb'y,_⟩:=m.dn i (Z i f);rw[hi]at g4;cases g4
   rw[H]at hb'y;exact g5 hb'y
  by_cases g6:b.v=x
  . exact m.xu i j b hi s g6 (B g6 i hi) (B g6 j s)
  ·by_cases A:b.v=y
   ·obtain⟨⟨c,I⟩,e1⟩:=l i hi A;obtain⟨⟨d,X⟩,e2⟩:=l j s A;have:2*i=2*j:=by
     refine h.canon (D9 I) (D9 X) ?_;funext ρ;have h1:2*i/2=i:=by omega
     have h2:2*j/2=j:=by omega
     have h3:2*i%2=0:=by omega
     have D:2*j%2=0:=by omega
     simp only[ef,h1,h2,h3,D,e1,e2]
    omega
   ·have o:∀i,N i=some b->N0 i=some b:=by
     intro i hi;rcases kinds i b hi with ⟨_,H,_⟩|⟨_,H,_⟩|⟨h0,_⟩
     . exact absurd H g6
     . exact absurd H A
     . exact h0
    exact h.uniq i j b (o i hi) (o j s)
 ·intro i b hb;rcases kinds i b hb with ⟨_,H,g2,g3,_,_,hV⟩|⟨f,H,_,_,_,_,hV⟩|⟨h0,g0⟩
  . rw[hV,H,(low _ g2).2.2,(low _ g3).2.2]
  . obtain⟨q,Y,_⟩:=f;rw[m.ext i (.inr ⟨q,Y⟩),hV,H]
  . rw[m.ext i (.inr ⟨b,h0⟩),(O i b b.lo h0 g0 (.inl rfl)).2.2,(O i b b.hi h0 g0 (.inr rfl)).2.2];exact h.eqn _ _ h0
end
open Go.RowKit Go.Shelf
structure TN where
 n:RN
 ll:Nat
 lh:Nat
 hl:Nat
 hh:Nat
variable {ts:List TN}
def tnV (t:TN):List Value:=rnV t.n++[Iv t.ll,Iv t.lh,Iv t.hl,Iv t.hh]
def tnOf (d:Af)(y:Nat)(i:Nat):TN:=⟨d.pool.nd i,(cofs d (d.pool.nd i).lo y).1,(cofs d (d.pool.nd i).lo y).2,(cofs d (d.pool.nd i).hi y).1,(cofs d (d.pool.nd i).hi y).2⟩
def Cu (d:Af)(y:Nat)(i:Nat):Bool:=decide ((tnOf d y i).ll≠(tnOf d y i).lh\/(tnOf d y i).hl≠(tnOf d y i).hh)
def Mb (hk:Ai d V)(e y:Nat):(cofs d e y).1≠(cofs d e y).2↔isV (Aa d) y e:=by
 unfold cofs isV;cases hb:Aa d (e/2)with
 | none=>simp
 | some b=>
   by_cases h:b.v=y
   ·have h1:(b.v:Int)=(y:Int):=by omega
    simp only[h1,Y1];constructor
    . intro _;exact⟨b,rfl,h⟩
    . intro _;exact G0 (hk.dag.ne _ _ hb)
   ·have h1:¬ (b.v:Int)=(y:Int):=by omega
    simp only[h1,if_false];constructor
    . intro hh;exact(hh rfl).elim
    . rintro⟨c,hc,hv⟩;cases hc;exact(h hv).elim
def Ju (hk:Ai d V){b:BN}(hb:Aa d i=some b)(hx:b.v=x):Cu d y i=true↔Turns (Aa d) x y i:=by
 obtain⟨_,_,H⟩:=BQ hb;have g0:bnOf (d.pool.nd i)=b:=by rw[<-(BQ hb).2.1];exact H
 have e1:(d.pool.nd i).lo=b.lo:=by rw[<-g0];rfl
 have e2:(d.pool.nd i).hi=b.hi:=by rw[<-g0];rfl
 unfold Cu tnOf;rw[Yk,e1,e2,Mb hk,Mb hk];constructor
 . intro h;exact⟨b,hb,hx,h⟩
 . rintro⟨c,hc,_,h⟩;rw[hb]at hc;cases hc;exact h
noncomputable def rkSw (n:Nat)(lev:Nat->Nat)(N0:Nat->Option BN)(x y:Nat)(N:Nat->Option BN)(i:Nat):Nat:=
 open Classical in if Turns N0 x y i then 2 * (n - lev x)else match N i with
  | none=>0
  | some b=>if b.v=x then 2*(n-lev x)-1 else 2*(n-lev b.v)
section
variable {lev:Nat->Nat}{N0:Nat->Option BN}{done:Nat->Prop}
def GA (h:Turns N0 x y i):rkSw n lev N0 x y N i=2*(n-lev x):=by unfold rkSw;rw[Xx h]
def F8 {b:BN}(h:¬ Turns N0 x y i)(hb:N i=some b)(hx:b.v=x):rkSw n lev N0 x y N i=2*(n-lev x)-1:=by unfold rkSw;rw[Xu h,hb];simp[hx]
def Mc {b:BN}(h:¬ Turns N0 x y i)(hb:N i=some b)(hx:b.v≠x):rkSw n lev N0 x y N i=2*(n-lev b.v):=by unfold rkSw;rw[Xu h,hb];simp[hx]
def Jv {b:BN}(hb:N0 i=some b)(h:Turns N0 x y i):b.v=x:=by
 obtain⟨c,H,hx,_⟩:=h;rw[hb]at H;cases H;exact hx
def Jw (m:Bv n lev N0 V0 x y done N V){I c:BN}(h0:N0 (e/2)=some I)(O:N (e/2)=some c):
 (Turns N0 x y (e/2)/\I.v=x/\rkSw n lev N0 x y N (e/2)=2*(n-lev x))\/(¬ Turns N0 x y (e/2)/\c=I/\rkSw n lev N0 x y N (e/2)<=2*(n-lev I.v)/\(I.v=x->rkSw n lev N0 x y N (e/2)=2*(n-lev x)-1)):=by
 by_cases H:Turns N0 x y (e/2)
 . exact .inl ⟨H,Jv h0 H,GA H⟩
 ·have hk:=m.keep _ _ h0 (λU=>H (m.dn _ U).1);rw[O]at hk;cases hk;refine .inr ⟨H,rfl,?_,λhx=>F8 H O hx⟩
  by_cases hx:I.v=x
  . rw[F8 H O hx,hx];omega
  . rw[Mc H O hx];exact Xs _
def ET (m:Bv n lev N0 V0 x y done N V)(h:okE N0 e):okE N e:=by
 rcases h with h|⟨c,H⟩
 . exact .inl h
 . obtain⟨b,hb⟩:=m.has H;exact .inr ⟨b,hb⟩
def Md (m:Bv n lev N0 V0 x y done N V)(h:midE n lev N0 N x y e):okE N e:=by
 rcases h with h|⟨c,H,_⟩
 . exact ET m h.1
 . exact .inr ⟨c,H⟩
def F9 {c:BN}(h:N0 (e/2)=some c):lvE n lev N0 e=lev c.v:=by unfold lvE;rw[h]
def Me (h:Dag n lev N0 V0)(hx:x<n)(hl:lev y=lev x+1)(m:Bv n lev N0 V0 x y done N V){c:BN}(I:lowE n lev N0 y e)(H:N (e/2)=some c):rkSw n lev N0 x y N (e/2)+3<=2*(n-lev x):=by
 have g1:=h.lt x hx;rcases I.1 with h0|⟨U,g0⟩
 . rw[h0,m.n0]at H;cases H
 ·have h1:=I.2;rw[F9 g0]at h1;have h2:=h.lt _ (h.var _ _ g0);rcases Jw m g0 H with ⟨_,O,_⟩|⟨_,_,h3,_⟩
  . rw[O]at h1;omega
  . omega
def Mf (h:Dag n lev N0 V0)(hx:x<n)(hl:lev y=lev x+1)(m:Bv n lev N0 V0 x y done N V){c:BN}(H:midE n lev N0 N x y e)(O:N (e/2)=some c):rkSw n lev N0 x y N (e/2)+1<=2*(n-lev x):=by
 have g1:=h.lt x hx;rcases H with H|⟨X,g0,I,U⟩
 . have:=Me h hx hl m H O;omega
 . rw[F8 U g0 I];omega
def Sc (h:Dag n lev N0 V0)(hx:x<n)(hl:lev y=lev x+1)(m:Bv n lev N0 V0 x y done N V):Acy N (rkSw n lev N0 x y N):=by
 have g6:=h.lt x hx;have edge:∀i b e,N i=some b->(e=b.lo\/e=b.hi)->okE N e/\∀c,N (e/2)=some c->rkSw n lev N0 x y N (e/2)<rkSw n lev N0 x y N i:=by
  intro i b e hb U;cases h0:N0 i with
  | none=>
    obtain⟨O,h1,h2,_⟩:=m.fresh i b hb h0;have g2:lowE n lev N0 y e:=by rcases U with rfl|rfl;exact h1;exact h2
    have I:¬ Turns N0 x y i:=λ⟨q,hq,_⟩=>by rw[h0]at hq;cases hq
    refine⟨ET m g2.1,λc H=>?_⟩;have:=Me h hx hl m g2 H;rw[F8 I hb O];omega
  | some f=>
    by_cases a:done i
    ·obtain⟨I,j,g4,_,h1,h2,_⟩:=m.dn i a;rw[hb]at g4;cases g4
     have Z:midE n lev N0 N x y e:=by rcases U with rfl|rfl;exact h1;exact h2
     refine⟨Md m Z,λc H=>?_⟩;have:=Mf h hx hl m Z H;rw[GA I];omega
    ·have hk:=m.keep i f h0 a;rw[hb]at hk;cases hk
     have Y:okE N0 e:=by rcases U with rfl|rfl;exact h.okLo _ _ h0;exact h.okHi _ _ h0
     have g0:lev b.v<lvE n lev N0 e:=by rcases U with rfl|rfl;exact h.lvLo _ _ h0;exact h.lvHi _ _ h0
     refine⟨ET m Y,λc H=>?_⟩;have g9:=h.lt _ (h.var _ _ h0);rcases Y with d|⟨g,g3⟩
     . rw[d,m.n0]at H;cases H
     ·rw[F9 g3]at g0;have g8:=h.lt _ (h.var _ _ g3);have hi:(Turns N0 x y i/\rkSw n lev N0 x y N i=2*(n-lev x)/\b.v=x)\/(¬ Turns N0 x y i/\b.v=x/\rkSw n lev N0 x y N i=2*(n-lev x)-1)\/(¬ Turns N0 x y i/\b.v≠x/\rkSw n lev N0 x y N i=2*(n-lev b.v)):=by
       by_cases I:Turns N0 x y i
       . exact .inl ⟨I,GA I,Jv h0 I⟩
       ·by_cases g1:b.v=x
        . exact .inr (.inl ⟨I,g1,F8 I hb g1⟩)
        . exact .inr (.inr ⟨I,g1,Mc I hb g1⟩)
      rcases Jw m g3 H with ⟨_,g5,X⟩|⟨_,_,X,g7⟩
      ·rw[X];rw[g5]at g0;rcases hi with ⟨_,_,O⟩|⟨_,O,_⟩|⟨_,_,h2⟩
       . rw[O]at g0;omega
       . rw[O]at g0;omega
       . rw[h2];omega
      ·rcases hi with ⟨_,h2,O⟩|⟨_,O,h2⟩|⟨_,O,h2⟩
       . rw[h2];rw[O]at g0;omega
       . rw[h2];rw[O]at g0;omega
       . rw[h2];omega
 exact⟨m.n0,λi b hb=>(edge i b _ hb (.inl rfl)).1,λi b hb=>(edge i b _ hb (.inr rfl)).1,λi b c hb H=>(edge i b _ hb (.inl rfl)).2 c H,λi b c hb H=>(edge i b _ hb (.inr rfl)).2 c H⟩
end
abbrev YO:=@List.nodup_cons
abbrev Zg:=@List.filter_cons
def Sd {α:Type}[DecidableEq α]{l:List α}(H:l.Nodup){κ:α}(hk:κ∈l){p q:α->Bool}(U:p κ=false)(I:∀a,q a=(p a||decide (a=κ))):(l.filter q).length=(l.filter p).length+1:=by
 induction l with
 | nil=>cases hk
 | cons a l O=>
   rw[YO]at H;have g0:=I a
   by_cases e:a=κ
   ·subst e;have g2:∀b∈l,b≠a:=λb hb e=>H.1 (e ▸ hb)
    have hl:l.filter q=l.filter p:=List.filter_congr λb hb=>by rw[I b];simp[g2 b hb]
    simp only[Zg,g0,U,hl];simp
   ·have g3:κ∈l:=by
     rcases Yy.1 hk with h|h
     . exact(e h.symm).elim
     . exact h
    have:=O H.2 g3;have g1:q a=p a:=by rw[g0];simp[e]
    simp only[Zg,g1];split
    . simp[this]
    . exact this
structure A7 (d0:Af)(V0:Nat->BF)(k x y:Nat)(Wt:List (Nat×Nat))(E:Nat->Int)(done:Nat->Prop)(d:Af)(V:Nat->BF):Prop where
 mid:Bv d0.vars.length (levN d0) (Aa d0) V0 x y done (Aa d) V
 vars:d.vars=(Bd d0 k).vars
 level:d.level=(Bd d0 k).level
 room:d.pool.room=d0.pool.room
 ext:Al d=Al d0
 live:AD d E
 tabO:∀v,v<d0.vars.length->v≠x->∀lo hi id,d.tab v (lo,hi)=some id↔Aa d id=some ⟨v,lo,hi⟩
 tabX:∀lo hi id,d.tab x (lo,hi)=some id↔Aa d id=some ⟨x,lo,hi⟩/\¬ Turns (Aa d0) x y id
 clen:d.counts.length<=1048578
 pos:∀i,Turns (Aa d0) x y i->0<Ak d i
 many:d.pool.many=d0.pool.many+(Wt.filter fun κ=>(d.tab x κ).isSome).length
section
variable {done:Nat->Prop}
def A7.has0 (m:A7 d0 V0 k x y Wt E done d V)(h:Aa d i=none):Aa d0 i=none:=by
 cases e:Aa d0 i with
 | none=>rfl
 | some c=>obtain⟨H,g0⟩:=m.mid.has e;rw[h]at g0;cases g0
theorem A7.add {id lo hi:Nat}(m:A7 d0 V0 k x y Wt (Al d0) done d V)(r:Em d d' id x lo hi)(a:lowE d0.vars.length (levN d0) (Aa d0) y lo)(c:lowE d0.vars.length (levN d0) (Aa d0) y hi)(h:hi%2=0)(Z:lo≠hi)
 (Y:d.tab x (lo,hi)=none) (j:(lo,hi)∈Wt) (f:Wt.Nodup):A7 d0 V0 k x y Wt (Al d0) done d' (addV V id ⟨x,lo,hi⟩):=by
 have b:id≠0:=by have:=r.pos;omega
 have g2:∀i,¬ Turns (Aa d0) x y i->Aa d i≠some ⟨x,lo,hi⟩:=λi U e=>by rw[(m.tabX lo hi i).2 ⟨e,U⟩]at Y;cases Y
 have g6:=m.mid.add r.none b rfl a c h Z g2;have h0:=m.has0 r.none;have g4:¬ Turns (Aa d0) x y id:=λ⟨q,hq,_⟩=>by rw[h0]at hq;cases hq
 have g3:Al d'=Al d0:=by
  rw[r.ext];funext i
  by_cases e:i=id
  . subst e;simp[EI h0]
  . simp only[Xu e,m.ext]
 have g0:=r.live;rw[g3]at g0;refine⟨by rw[r.nodes];exact g6,r.vars.trans m.vars,r.level.trans m.level,r.room.trans m.room,g3,g0,λv g g1 O g5 i=>?_,λO g5 i=>?_,r.clen,λi U=>?_,?_⟩
 ·rw[r.tab,r.nodes];dsimp only;rw[Xu g1,m.tabO v g g1]
  by_cases I:i=id
  ·subst I;rw[Ci,r.none];constructor
   . intro H;cases H
   . intro H;cases H;exact absurd rfl g1
  . rw[Bh _ I]
 ·rw[r.tab,r.nodes];dsimp only;rw[Xx rfl];unfold putF
  by_cases e2:(O,g5)=(lo,hi)
  ·cases e2;rw[Xx rfl];constructor
   . intro X;cases X;rw[Ci];exact⟨rfl,g4⟩
   ·rintro⟨X,H⟩
    by_cases I:i=id
    . rw[I]
    . rw[Bh _ I]at X;exact absurd X (g2 i H)
  ·rw[Xu e2,m.tabX]
   by_cases I:i=id
   ·subst I;rw[Ci,r.none];constructor
    . rintro⟨H,_⟩;cases H
    . rintro⟨H,_⟩;cases H;exact absurd rfl e2
   . rw[Bh _ I]
 . rw[r.cnt];unfold setC;rw[Xu (λe=>g4 (by rw[<-e];exact U))];exact m.pos i U
 ·rw[r.many,m.many];have e1:(Wt.filter fun κ=>(d'.tab x κ).isSome).length=(Wt.filter fun κ=>(d.tab x κ).isSome).length+1:=by
   refine Sd f j (by rw[Y];rfl) fun κ=>?_
   rw[r.tab];dsimp only;rw[Xx rfl];unfold putF
   by_cases e:κ=(lo,hi)
   . simp[e]
   . simp[e]
  rw[e1];omega
def A7.counts {X:Nat->Int}{cs:List Nat}{U mm:Nat}(m:A7 d0 V0 k x y Wt E done d V)(hl:AD (d.cd cs U) X)(I:cs.length=d.counts.length)(H:∀i,mm<=rkSw d0.vars.length (levN d0) (Aa d0) x y (Aa d) i->cs.getD i 0=d.counts.getD i 0)(Y:mm<=2*(d0.vars.length-levN d0 x)):
 A7 d0 V0 k x y Wt X done (d.cd cs U) V:=
 ⟨m.mid,m.vars,m.level,m.room,m.ext,hl,m.tabO,m.tabX,by show cs.length<=_;rw[I];exact m.clen,λi O=>by
  have:=H i (by rw[GA O];exact Y)
  show 0<cs.getD i 0
  rw[this];exact m.pos i O,m.many⟩
def A7.fresh_y (m:A7 d0 V0 k x y Wt E done d V)(hk:Dag d0.vars.length (levN d0) (Aa d0) V0)(I:x≠y)(X:y<d0.vars.length)(a:Turns (Aa d0) x y i)(Z:¬ done i)(hV:V0 i=iteF y (ef V hi) (ef V lo)):d.tab y (lo,hi)=none:=by
 cases e:d.tab y (lo,hi)with
 | none=>rfl
 | some j=>
   exfalso;have U:=(m.tabO y X (Ye I) lo hi j).1 e;obtain⟨b,hb,g3,g6⟩:=a;have same:∀H,(∃c,Aa d0 H=some c)->V0 H=V0 i->H=i:=by
    rintro H ⟨c,O⟩ g4;have:=hk.canon (D9 O) (D9 hb) (by funext ρ;simp only[ef];rw[show 2*H/2=H by omega,show 2*i/2=i by omega,g4,show 2*H%2=0 by omega,show 2*i%2=0 by omega]);omega
   by_cases g0:done j
   . obtain⟨⟨q,Y,g5,_⟩,c,O,_,_,_,_,_,g1⟩:=m.mid.dn j g0;rw[U]at O;cases O;have:=same j ⟨q,Y⟩ (g1.trans hV.symm);rw[this]at g0;exact Z g0
   ·cases h0:Aa d0 j with
    | none=>
      have:=(m.mid.fresh j _ U h0).1;exact I this.symm
    | some c=>
      have g2:=m.mid.keep j c h0 g0;rw[U]at g2;cases g2;have g1:V0 j=iteF y (ef V0 hi) (ef V0 lo):=hk.eqn _ _ h0;have e1:=BS m.mid.ext (hk.okLo _ _ h0);have e2:=BS m.mid.ext (hk.okHi _ _ h0);dsimp only at e1 e2;rw[<-e1,<-e2]at g1;have:=same j ⟨_,h0⟩ (g1.trans hV.symm);subst this;rw[hb]at h0;cases h0;exact I g3.symm
end
theorem Mg {v:Nat}(h:V id=iteF v (ef V (eflip hi (eneg hi))) (ef V (eflip lo (eneg hi)))):ef V (eflip (2*id) (eneg hi))=iteF v (ef V hi) (ef V lo):=by
 funext ρ;rw[CD];have e0:ef V (2*id) ρ=V id ρ:=by unfold ef;rw[show 2*id/2=id by omega,show 2*id%2=0 by omega];simp
 rw[e0,h];unfold iteF;split<;>rw[CD]<;>cases eneg hi<;>simp
section
variable {done:Nat->Prop}
theorem A7.valX (m:A7 d0 V0 k x y Wt E done d V)(hk:Dag d0.vars.length (levN d0) (Aa d0) V0){a:Nat}(hb:Aa d id=some ⟨x,a,b⟩)(U:¬ Turns (Aa d0) x y id)(O:lowE d0.vars.length (levN d0) (Aa d0) y a)(H:lowE d0.vars.length (levN d0) (Aa d0) y b):V id=iteF x (ef V b) (ef V a):=by
 have e1:=BS m.mid.ext O.1;have e2:=BS m.mid.ext H.1;rw[e1,e2];cases h0:Aa d0 id with
 | none=>exact(m.mid.fresh id _ hb h0).2.2.2.2.2
 | some c=>
   have g0:=m.mid.keep id c h0 (λI=>U (m.mid.dn _ I).1);rw[hb]at g0;cases g0;rw[m.mid.ext id (.inr ⟨_,h0⟩)];exact hk.eqn _ _ h0
def DT {lev:Nat->Nat}{b:Bool}(h:lowE n lev N y e):lowE n lev N y (eflip e b):=⟨Du h.1,by rw[DO];exact h.2⟩
def bkey (lo hi:Nat):Nat×Nat:=(eflip lo (eneg hi),eflip hi (eneg hi))
structure CH (d0:Af)(V0:Nat->BF)(k x y:Nat)(Wt:List (Nat×Nat))(done:Nat->Prop)(d:Af)(V:Nat->BF)(lo hi:Nat)(r:Nat)(d':Af)(V':Nat->BF):Prop where
 mid:A7 d0 V0 k x y Wt (Al d0) done d' V'
 edge:midE d0.vars.length (levN d0) (Aa d0) (Aa d') x y r
 val:ef V' r=iteF x (ef V0 hi) (ef V0 lo)
 reg:hi%2=0->r%2=0
 keep:∀e,midE d0.vars.length (levN d0) (Aa d0) (Aa d) x y e->midE d0.vars.length (levN d0) (Aa d0) (Aa d') x y e/\ef V' e=ef V e
theorem Mh (id:Nat)(hi:Nat)(h:hi%2=0):eflip (2*id) (eneg hi)%2=0:=by
 unfold eneg eflip;have:(hi%2 == 1)=false:=by rw[h];rfl
 rw[this];simp
def Se (m:A7 d0 V0 k x y Wt (Al d0) done d V)(H:lowE d0.vars.length (levN d0) (Aa d0) y lo):CH d0 V0 k x y Wt done d V lo lo lo d V:=
 ⟨m,.inl H,by rw[BS m.mid.ext H.1];funext ρ;unfold iteF;split<;>rfl,λh=>h,λe I=>⟨I,rfl⟩⟩
theorem Sf (m:A7 d0 V0 k x y Wt (Al d0) done d V)(hk:Dag d0.vars.length (levN d0) (Aa d0) V0)(H:lowE d0.vars.length (levN d0) (Aa d0) y lo)(I:lowE d0.vars.length (levN d0) (Aa d0) y hi)(U:d.tab x (bkey lo hi)=some id):
 CH d0 V0 k x y Wt done d V lo hi (eflip (2*id) (eneg hi)) d V:=by
 obtain⟨hb,O⟩:=(m.tabX _ _ id).1 U;refine⟨m,.inr ⟨_,by rw[Dt,show 2*id/2=id by omega];exact hb,rfl,by rw[Dt,show 2*id/2=id by omega];exact O⟩,?_,Mh id hi,λe X=>⟨X,rfl⟩⟩;rw[Mg (m.valX hk hb O (DT H) (DT I)),BS m.mid.ext H.1,BS m.mid.ext I.1]
theorem Sg (m:A7 d0 V0 k x y Wt (Al d0) done d V)(hk:Dag d0.vars.length (levN d0) (Aa d0) V0)(H:lowE d0.vars.length (levN d0) (Aa d0) y lo)(I:lowE d0.vars.length (levN d0) (Aa d0) y hi)(U:lo≠hi)
 (a:d.tab x (bkey lo hi)=none) (r:Em d d' id x (bkey lo hi).1 (bkey lo hi).2) (f:bkey lo hi∈Wt) (Y:Wt.Nodup):
 CH d0 V0 k x y Wt done d V lo hi (eflip (2*id) (eneg hi)) d' (addV V id ⟨x,(bkey lo hi).1,(bkey lo hi).2⟩):=by
 have b:id≠0:=by have:=r.pos;omega
 have m':=m.add r (DT H) (DT I) (Ls hi) (G0 U) a f Y;have Z:¬ Turns (Aa d0) x y id:=λ⟨q,hq,_⟩=>by rw[m.has0 r.none]at hq;cases hq
 have hb:Aa d' id=some ⟨x,(bkey lo hi).1,(bkey lo hi).2⟩:=by rw[r.nodes,Ci]
 refine⟨m',.inr ⟨_,by rw[Dt,show 2*id/2=id by omega];exact hb,rfl,by rw[Dt,show 2*id/2=id by omega];exact Z⟩,?_,Mh id hi,λe O=>?_⟩
 . rw[Mg (m'.valX hk hb Z (DT H) (DT I)),BS m'.mid.ext H.1,BS m'.mid.ext I.1]
 ·rcases O with O|⟨c,X,g1,g2⟩
  . exact⟨.inl O,by rw[BS m'.mid.ext O.1,BS m.mid.ext O.1]⟩
  ·have g0:e/2≠id:=by rintro g;rw[g,r.none]at X;cases X
   refine⟨.inr ⟨c,by rw[r.nodes,Bh _ g0];exact X,g1,g2⟩,?_⟩;funext ρ;simp only[ef,addV,Xu g0]
def A7.fits (m:A7 d0 V0 k x y Wt E done d V){κ:Nat×Nat}(O:κ∈Wt)(I:d.tab x κ=none)(H:d0.pool.many+Wt.length<=d0.pool.room):d.pool.many<d.pool.room:=by
 have h1:(Wt.filter fun κ=>(d.tab x κ).isSome).length<Wt.length:=by
  rw[<-Nat.not_le];intro g0;have h2:=Yj (fun κ=>(d.tab x κ).isSome) Wt;have h3:=List.length_filter_eq_length_iff.1 (Nat.le_antisymm h2 g0);have:=h3 κ O;rw[I]at this;cases this
 rw[m.many,m.room];omega
end
theorem Mi {done:Nat->Prop}{o:Own}(h:A3 o w sb d)(H:Ac o w)(m:A7 d0 V0 k x y Wt (Al d0) done d V)
 (hk:Dag d0.vars.length (levN d0) (Aa d0) V0) (I:Acy (Aa d) (rkSw d0.vars.length (levN d0) (Aa d0) x y (Aa d))) (hx:x<d0.vars.length) (X:d.vars.length=d0.vars.length) (lo hi:Nat) (O:lowE d0.vars.length (levN d0) (Aa d0) y lo) (Y:lowE d0.vars.length (levN d0) (Aa d0) y hi)
 (U:lo≠hi->d.tab x (bkey lo hi)=none->bkey lo hi∈Wt) (l:Wt.Nodup) (a:d0.pool.many+Wt.length<=d0.pool.room):
 Cl 164 #[Pt sb,Iv x,Iv lo,Iv hi] w λe w'=>∃r:Nat,e=.returned (Iv r)/\∃o' d' V',A3 o' w' sb d'/\Ac o' w'/\CH d0 V0 k x y Wt done d V lo hi r d' V'/\d'.vars.length=d0.vars.length/\Chg Am o o' w w':=by
 obtain⟨s,h⟩:=h;have Z:=ET m.mid O.1;have okH:=ET m.mid Y.1;have g9:=h.edge_lt Z;have v:=h.edge_lt okH;have g4:lo<eMax:=by unfold eMax;omega
 have g6:hi<eMax:=by unfold eMax;omega
 by_cases g8:lo=hi
 ·subst g8;have c:Hq (∃r:Nat,Ending.returned (Iv (lo:Nat))=.returned (Iv r)/\∃o' d' V',A3 o' w sb d'/\Ac o' w/\CH d0 V0 k x y Wt done d V lo lo r d' V'/\d'.vars.length=d0.vars.length/\Chg Am o o' w w):=Hd ⟨lo,rfl,o,d,V,⟨s,h⟩,H,Se m O,X,Chg.refl _ _ _⟩;clear h H m hk I O Y U g4 g6 g9 v Z okH
  go_enter func164,ntmps164
  go_wp2;go_ret;exact c.o
 have go:((lo:Int) == hi)=false:=by simp;omega
 have f:x<d.vars.length:=by rw[X];exact hx
 have g1:=Hd (λW=>I0 lo hi W g4 g6);have u:=Hd (h.tab x (by rw[h.tlen];exact f));obtain⟨gt,ct,gf,gk,T,R⟩:=h.tabAt f;obtain⟨N,c1,c2,M,L,f0⟩:=cells5 h.blk;rw[gf]at c2;obtain⟨t,g⟩:=Ex (s.ts.getD x 0);rw[<-g]at gk u;have S:(x:Int)<s.ts.length:=by omega
 obtain⟨lo2,g5⟩:∃q,q=eflip lo (eneg hi):=⟨_,rfl⟩;obtain⟨g3,g7⟩:∃q,q=eflip hi (eneg hi):=⟨_,rfl⟩;obtain⟨ng,gd⟩:∃q,q=eneg hi:=⟨_,rfl⟩;have g2:bkey lo hi=(lo2,g3):=by unfold bkey;rw[g5,g7]
 rw[<-g5,<-g7]at g1;cases g0:d.tab x (lo2,g3)with
 | some id=>
   have p:=Hd (λW (hb:Bw w W)=>IG o x t (d.tab x) lo2 g3 id W (u.o.below hb H) g0);have gc:=((m.tabX _ _ id).1 g0).1;have C:=(h.tk_lt gc).2;have ge:=Hd (λW=>I1 id (eneg hi) W (by omega));have c:Hq (∀W,Bw w W->∃r:Nat,Ending.returned (Iv (eflip (2*id) (eneg hi):Nat))=.returned (Iv r)/\∃o' d' V',A3 o' W sb d'/\Ac o' W/\CH d0 V0 k x y Wt done d V lo hi r d' V'/\d'.vars.length=d0.vars.length/\Chg Am o o' w W):=
    Hd λW hb=>⟨_,rfl,o,d,V,⟨s,h.below H hb⟩,H.mono hb.size,Sf m hk O Y (by rw[g2];exact g0),X,Chg.of_below hb _ _⟩
   rw[<-gd]at g1 ge c;clear h H m hk I O Y U g4 g6 g9 v Z okH g0 gc C g5 g7 gd g2 f g8 X g gf
   go_enter func164,ntmps164
   go_wp2_with fail;refine(g1.o _).mono ?_;rintro e w' ⟨rfl,rfl⟩;go_wp2_with fail;refine(p.o _ (X7 _ _)).mono ?_;rintro e w' ⟨rfl,rfl⟩;go_wp2_with fail;refine(ge.o _).mono ?_;rintro e w' ⟨rfl,rfl⟩;go_wp2;go_ret;exact c.o _ (X7 _ _)
 | none=>
   have p:=Hd (II o x t (d.tab x) lo2 g3 w u.o g0);have n:bkey lo hi∈Wt:=U g8 (by rw[g2];exact g0);have J:=Hd (Lq h H (by rw[m.ext];exact m.live) (λi b hb=>⟨I.okLo i b hb,I.okHi i b hb⟩) x lo2 g3 f g0 m.clen);have K:Hq (d.pool.many≠d.pool.room):=Hd λe=>by have:=m.fits n (by rw[g2];exact g0) a;omega
   have c:Hq (∀id d' o' W,A3 o' W sb d'->Ac o' W->Em d d' id x lo2 g3->Chg Am o o' w W->∃r:Nat,Ending.returned (Iv (eflip (2*id) (eneg hi):Nat))=.returned (Iv r)/\∃o' d' V',A3 o' W sb d'/\Ac o' W/\CH d0 V0 k x y Wt done d V lo hi r d' V'/\d'.vars.length=d0.vars.length/\Chg Am o o' w W):=by
    refine Hd λid d' o' W h1 h2 h3 F=>⟨_,rfl,o',d',_,h1,h2,Sg m hk O Y g8 (by rw[g2];exact g0) (by rw[g2];exact h3) n l,by rw[h3.vars];exact X,F⟩
   rw[<-gd]at g1 c;clear h H m hk I O Y U g4 g6 g9 v Z okH g0 g5 g7 g2 f g8 X g gf n gd
   go_enter func164,ntmps164
   go_wp2_with fail;refine(g1.o _).mono ?_;rintro e w' ⟨rfl,rfl⟩;go_wp2_with fail;refine p.o.mono ?_;rintro e w' ⟨rfl,rfl⟩;go_wp2_with fail;refine J.o.mono ?_;rintro e z (⟨E,rfl,Q⟩|⟨id,d',o',rfl,hs,B,j,A⟩)
   . exact(K.o E).elim
   ·have C:id<1048578:=by
     obtain⟨s',hs'⟩:=hs;have D:Aa d' id=some ⟨x,lo2,g3⟩:=by rw[j.nodes,Ci]
     have:=hs'.tk_lt D;omega
    have ge:=Hd (I1 id ng z (by omega));have G:=Hd (c.o id d' o' z hs B j A);clear hs B j A N c1 c2 M L f0 gk;go_wp2_with fail;refine ge.o.mono ?_;rintro e w' ⟨rfl,rfl⟩;go_wp2;go_ret;exact G.o
section
variable {done:Nat->Prop}
structure Jx (d0:Af)(V0:Nat->BF)(x y i ll lh hl hh:Nat):Prop where
 f1:lowE d0.vars.length (levN d0) (Aa d0) y ll
 f2:lowE d0.vars.length (levN d0) (Aa d0) y lh
 f3:lowE d0.vars.length (levN d0) (Aa d0) y hl
 f4:lowE d0.vars.length (levN d0) (Aa d0) y hh
 val:∀ρ,V0 i ρ=if ρ x then(if ρ y then ef V0 hh ρ else ef V0 hl ρ)else(if ρ y then ef V0 lh ρ else ef V0 ll ρ)
 reg:hh%2=0
def Sh (hk:Ai d0 V0)(O:y<d0.vars.length)(hl:levN d0 y=levN d0 x+1){b:BN}(hb:Aa d0 i=some b)(H:b.v=x):
 Jx d0 V0 x y i (cofs d0 b.lo y).1 (cofs d0 b.lo y).2 (cofs d0 b.hi y).1 (cofs d0 b.hi y).2:=by
 have X:=hk.dag.lvLo _ _ hb;have U:=hk.dag.lvHi _ _ hb;rw[H]at X U;obtain⟨e,a2,a3,a4,a5⟩:=Bo hk (hk.dag.okLo _ _ hb) O (by omega);obtain⟨c1,c2,d,a,Z⟩:=Bo hk (hk.dag.okHi _ _ hb) O (by omega);refine⟨⟨e,a3⟩,⟨a2,a4⟩,⟨c1,d⟩,⟨c2,a⟩,fun ρ=>?_,?_⟩
 . rw[hk.dag.eqn _ _ hb,H];unfold iteF;rw[a5 ρ,Z ρ]
 ·have I:=hk.dag.reg _ _ hb;unfold cofs;cases Y:Aa d0 (b.hi/2)with
  | none=>exact I
  | some c=>
    dsimp only;split
    ·have:eneg b.hi=false:=by unfold eneg;rw[I];rfl
     dsimp only;rw[this];exact hk.dag.reg _ _ Y
    . exact I
def Si (hk:Ai d0 V0)(hx:x<d0.vars.length)(X:y<d0.vars.length)(U:x≠y)(hl:levN d0 y=levN d0 x+1){ll lh H hh:Nat}(t:Jx d0 V0 x y i ll lh H hh)(I:ll≠lh\/H≠hh)
 (h1:ef V lo=iteF x (ef V0 H) (ef V0 ll)) (h2:ef V hi=iteF x (ef V0 hh) (ef V0 lh)):V0 i=iteF y (ef V hi) (ef V lo)/\lo≠hi:=by
 constructor
 . funext ρ;rw[t.val ρ,h1,h2];unfold iteF;cases ρ x<;>cases ρ y<;>rfl
 ·rintro rfl;rw[h1]at h2;have ind:∀{e:Nat},lowE d0.vars.length (levN d0) (Aa d0) y e->∀(ρ:Nat->Bool) (b:Bool),ef V0 e (upd ρ x b)=ef V0 e ρ:=λO ρ b=>hk.dag.indep_var O.1 (by have:=O.2;omega) ρ b
  have e1:ef V0 H=ef V0 hh:=by
   funext ρ;have:=congrFun h2 (upd ρ x true);unfold iteF at this;rw[CY,ind t.f3,ind t.f4]at this;simpa using this
  have e2:ef V0 ll=ef V0 lh:=by
   funext ρ;have:=congrFun h2 (upd ρ x false);unfold iteF at this;rw[CY,ind t.f1,ind t.f2]at this;simpa using this
  rcases I with h|h
  . exact h (hk.dag.canon t.f1.1 t.f2.1 e2)
  . exact h (hk.dag.canon t.f3.1 t.f4.1 e1)
def Sj {H:Nat}{c:Nat->Nat}{b I:BN}(hb:N i=some b):Bb H (setN N i I) c=Bb H N c:=by
 unfold Bb;refine B5 _ λj _=>?_
 unfold dead1 setN
 by_cases e:j=i
 . subst e;rw[Xx rfl,hb]
 . rw[Xu e]
def A7.set {b:BN}{p':Ae}(m:A7 d0 V0 k x y Wt E done d V)(H:x≠y)(hk:Dag d0.vars.length (levN d0) (Aa d0) V0)(p:y<d0.vars.length)(U:Turns (Aa d0) x y i)(n:¬ done i)(hb:Aa d0 i=some b)
 (g:midE d0.vars.length (levN d0) (Aa d0) (Aa d) x y lo) (l:midE d0.vars.length (levN d0) (Aa d0) (Aa d) x y hi) (q:hi%2=0) (f:lo≠hi) (hV:V0 i=iteF y (ef V hi) (ef V lo))
 (r:Aa { d with pool:=p' }=setN (Aa d) i ⟨y,lo,hi⟩) (s:Al { d with pool:=p' }=Al d) (h1:p'.room=d.pool.room) (h2:p'.many=d.pool.many) (h3:p'.at_.length=d.pool.at_.length):
 A7 d0 V0 k x y Wt (addE (addE (addE (addE E b.lo 1) b.hi 1) lo (-1)) hi (-1)) (λj=>done j\/j=i) { d with pool:=p',tab:=λu=>if u=y then putF (d.tab u) (lo,hi) (some i)else d.tab u } V:=by
 have g5:=m.fresh_y hk H p U n hV;have g1:Aa d i=some b:=m.mid.keep i b hb n;have g4:b.v=x:=Jv hb U;have g0:Aa { d with pool:=p',tab:=λu=>if u=y then putF (d.tab u) (lo,hi) (some i)else d.tab u }=setN (Aa d) i ⟨y,lo,hi⟩:=r;refine⟨by rw[g0];exact m.mid.turn H U g l q f hV,m.vars,m.level,h1.trans m.room,s.trans m.ext,⟨?_,?_,λj c Z=>?_⟩,λv a g2 X g3 j=>?_,λX g3 j=>?_,m.clen,m.pos,?_⟩
 ·show Cnt p'.at_.length _ (Ak d) _
  rw[g0,h3];exact m.live.cnt.setLive g1 (m.pos i U)
 ·show(d.dead:Int)=Bb p'.at_.length _ (Ak d)
  rw[g0,h3,Sj g1];exact m.live.dead
 ·rw[g0]at Z
  show j<d.counts.length
  unfold setN at Z;split at Z
  . rename_i e;rw[e];exact m.live.has i b g1
  . exact m.live.has j c Z
 ·rw[g0];dsimp only
  by_cases e:v=y
  ·subst e;rw[Xx rfl];unfold putF
   by_cases e2:(X,g3)=(lo,hi)
   ·cases e2;rw[Xx rfl];constructor
    . intro Y;cases Y;simp[setN]
    ·intro Y;unfold setN at Y;split at Y
     . rename_i I;rw[I]
     . have:=(m.tabO v a g2 _ _ j).2 Y;rw[g5]at this;cases this
   ·rw[Xu e2,m.tabO v a g2];unfold setN
    by_cases I:j=i
    ·subst I;rw[Xx rfl,g1];constructor
     . intro O;cases O;exact absurd g4 (Ye H)
     . intro O;cases O;exact absurd rfl e2
    . rw[Xu I]
  ·rw[Xu e,m.tabO v a g2];unfold setN
   by_cases I:j=i
   ·subst I;rw[Xx rfl,g1];constructor
    . intro O;cases O;exact absurd g4 g2
    . intro O;cases O;exact absurd rfl e
   . rw[Xu I]
 ·rw[g0];dsimp only;rw[Xu H,m.tabX];unfold setN
  by_cases I:j=i
  ·subst I;rw[Xx rfl];constructor
   . rintro⟨_,h⟩;exact(h U).elim
   . rintro⟨_,h⟩;exact(h U).elim
  . rw[Xu I]
 ·show p'.many=_
  rw[h2,m.many];dsimp only;rw[Xu H]
end
structure TRow (w:Wd)(base:Nat)(v:Value)(ts:List TN):Prop where
 small:ts.length<=1048578
 ex:∃a c,v=.slice a ts.length c/\∀k,∀hk:k<ts.length,∃g,a=some (Av g)/\base<=g/\∀j u,(tnV ts[k])[j]?=some u->w.cell? (Aw g (k*9+j))=some u
def TRow.keep {base:Nat}(h:TRow w base v ts)(hk:∀g,base<=g->g<w.heap.size->v.ownBlock=some g->w'.heap[g]?=w.heap[g]?):TRow w' base v ts:=by
 obtain⟨a,c,rfl,h1⟩:=h.ex;refine⟨h.small,a,c,rfl,λk g0=>?_⟩;obtain⟨g,rfl,hb,H⟩:=h1 k g0;refine⟨g,rfl,hb,λj u hu=>?_⟩;have:=H j u hu;exact(Co this (hk g hb (Ad this) rfl))
def TRow.below {base:Nat}(h:TRow w base v ts)(hb:Bw w w'):TRow w' base v ts:=h.keep λg _ H _=>hb.block g H
def BB (t:TN):List (Nat×Nat):=[(t.ll,t.hl),(t.lh,t.hh)]
structure BT (f:Nat×Nat->Option Nat)(ps:List (Nat×Nat))(Wt:List (Nat×Nat)):Prop where
 nodup:Wt.Nodup
 free:∀κ∈Wt,f κ=none
 has:∀p∈ps,p.1≠p.2->f (bkey p.1 p.2)=none->bkey p.1 p.2∈Wt
 len:Wt.length<=ps.length
def BT.skip {f:Nat×Nat->Option Nat}(h:BT f ps Wt){p:Nat×Nat}(I:p.1≠p.2->f (bkey p.1 p.2)=none->bkey p.1 p.2∈Wt):BT f (ps++[p]) Wt:=
 ⟨h.nodup,h.free,λq H=>by
  rcases XD.1 H with H|H
  . exact h.has q H
  . simp only[XB]at H;subst H;exact I,by have:=h.len;simp;omega⟩
abbrev YL:=@List.mem_append_left
def BT.add {f:Nat×Nat->Option Nat}(h:BT f ps Wt){p:Nat×Nat}(h1:f (bkey p.1 p.2)=none)(h2:bkey p.1 p.2∉Wt):BT f (ps++[p]) (Wt++[bkey p.1 p.2]):=
 ⟨Yl.2 ⟨h.nodup,by simp,λa I b hb=>by simp only[XB]at hb;subst hb;rintro rfl;exact h2 I⟩,fun κ hκ=>by
  rcases XD.1 hκ with hκ|hκ
  . exact h.free κ hκ
  . simp only[XB]at hκ;subst hκ;exact h1,λq H h3 O=>by
  rcases XD.1 H with H|H
  . exact YL _ (h.has q H h3 O)
  . simp only[XB]at H;subst H;simp,by have:=h.len;simp;omega⟩
def CP (Wt:List (Nat×Nat)):List ((Nat×Nat)×Value):=Wt.map fun κ=>(κ,.bool true)
def Jy (κ:Nat×Nat):∀(Wt:List (Nat×Nat)) (i:Nat),(AH κ (CP Wt) i).map (·.2)=if κ∈Wt then some (.bool true)else none
 | [],_=>rfl
 | a::l,i=>by
   show(if a=κ then some (i,Value.bool true)else AH κ (CP l) (i+1)).map (·.2)=_
   by_cases e:a=κ
   . rw[Xx e];simp[e]
   . rw[Xu e,Jy κ l (i+1)];simp[Ye e]
def Sk (Wt:List (Nat×Nat))(κ:Nat×Nat):(getL (CP Wt) κ).getD (.bool false)=.bool (decide (κ∈Wt)):=by
 unfold getL;rw[Jy]
 by_cases h:κ∈Wt
 . rw[Xx h,XQ h];rfl
 . rw[Xu h,XW h];rfl
def Sl {κ:Nat×Nat}(h:κ∉Wt):putL κ (.bool true) (CP Wt)=CP (Wt++[κ]):=by
 have h1:=Jy κ Wt 0;rw[Xu h]at h1;unfold putL;cases e:AH κ (CP Wt) 0 with
 | none=>simp[CP]
 | some p=>rw[e]at h1;cases h1
theorem Sn {o:Own}(h:Ap o w sb d s)(Z:Ac o w)(x:Nat)(hx:x<d.vars.length){base:Nat}(J:TRow w base v ts)(A:∀t∈ts,t.ll<eMax/\t.lh<eMax/\t.hl<eMax/\t.hh<eMax):
 Cl 159 #[Pt sb,Iv x,v] w λe w'=>∃Wt,e=.returned (Iv (Wt:List (Nat×Nat)).length)/\BT (d.tab x) (ts.flatMap BB) Wt/\Bw w w':=by
 obtain⟨a,c,rfl,gf⟩:=J.ex;have hy:=J.small;have HR:=Hd J;obtain⟨gt,ct,gG,gB,hp,hw⟩:=h.tabAt hx;obtain⟨c0,c1,c2,c3,c4,f0⟩:=cells5 h.blk;rw[gG]at c2;have gE:=Hd (h.tab x (by rw[h.tlen];exact hx));have hf:=Hd Z;obtain⟨t,ht⟩:=Ex (s.ts.getD x 0);rw[<-ht]at gB gE;have hu:(x:Int)<s.ts.length:=by omega
 have hi:=Hd gf;have ha:Hq (∀k,∀hk:k<ts.length,ts[k].ll<eMax/\ts[k].lh<eMax/\ts[k].hl<eMax/\ts[k].hh<eMax):=Hd λk hk=>A _ (XM hk)
 clear h Z J ht gG gf A c0 c1 c3 c4 f0;have h4:=Ek (P:=prog) w 254;obtain⟨w1,ge⟩:=Ex (w.alloc (.map #[] 0));have he:Hq (Au w1 w.heap.size encE (CP [])):=by rw[ge];exact Hd (EC w encE)
 have ho:Hq (Bw w w1):=by rw[ge];exact Hd (Ag _ _)
 have hs1:w1.heap.size=w.heap.size+1:=by rw[ge];simp
 rw[<-ge]at h4;clear ge
 go_enter func159,ntmps159
 go_wp2
 go_loopw [8,22] (λV y wr=>∃(k:Nat) (Wt:List (Nat×Nat)),k<=ts.length/\y=Iv k/\V=Iv Wt.length/\Bw w wr/\w1.heap.size<=wr.heap.size/\Au wr w.heap.size encE (CP Wt)/\Hq (BT (d.tab x) ((ts.take k).flatMap BB) Wt)) (λ_ y _=>ts.length-(intOf y).toNat)
 case atStart=>exact⟨0,[],X0 _,rfl,rfl,ho.o,Xs _,he.o,Hd ⟨List.nodup_nil,λ_ h=>by simp at h,λ_ h=>by simp at h,Xs _⟩⟩
 case round=>
  obtain⟨k,Wt,hk,rfl,rfl,g4,gY,g3,f⟩:=hrel;have F:=Hd g4;have gF:=Hd g3;clear g4 g3
  by_cases Z:k<ts.length
  ·obtain⟨g,rfl,hA,I⟩:=hi.o k Z;obtain⟨r,n,m,i⟩:=ha.o k Z
   have W:Hq ((ts.take (k+1)).flatMap BB=(ts.take k).flatMap BB++[(ts[k].ll,ts[k].hl),(ts[k].lh,ts[k].hh)]):=Hd (by
    rw[XA Z,Z2];rfl)
   have g2:=F.o;obtain⟨tn,gH⟩:=Ex (ts[k]);rw[<-gH]at I r n m i W;obtain⟨⟨i0,i1,i2,i3,i4⟩,ll,lh,hl,hh⟩:=tn;have e0:=(g2.cell (p:=(Aw g (k*9))) (Ad (I 0 _ rfl))).trans (I 0 _ rfl);have e1:=(g2.cell (p:=(Aw g (k*9+1))) (Ad (I 1 _ rfl))).trans (I 1 _ rfl);have e2:=(g2.cell (p:=(Aw g (k*9+2))) (Ad (I 2 _ rfl))).trans (I 2 _ rfl);have e3:=(g2.cell (p:=(Aw g (k*9+3))) (Ad (I 3 _ rfl))).trans (I 3 _ rfl);have e4:=(g2.cell (p:=(Aw g (k*9+4))) (Ad (I 4 _ rfl))).trans (I 4 _ rfl);have e5:=(g2.cell (p:=(Aw g (k*9+5))) (Ad (I 5 _ rfl))).trans (I 5 _ rfl);have e6:=(g2.cell (p:=(Aw g (k*9+6))) (Ad (I 6 _ rfl))).trans (I 6 _ rfl);have e7:=(g2.cell (p:=(Aw g (k*9+7))) (Ad (I 7 _ rfl))).trans (I 7 _ rfl);have e8:=(g2.cell (p:=(Aw g (k*9+8))) (Ad (I 8 _ rfl))).trans (I 8 _ rfl);dsimp only at r n m i W;have h5:(k:Int)<ts.length:=by omega
   clear I g2 gH;go_upto_region 7 with fail;obtain⟨H,R⟩:=Ex ((wr.alloc (.cells #[Iv i0,Iv i1,Iv i2,Iv i3,Iv i4,Iv ll,Iv lh,Iv hl,Iv hh] 234)).alloc (.cells #[Iv ll,Iv hl,Iv lh,Iv hh] 239));rw[<-R];have M:Bw wr H:=by rw[R];exact(Ag _ _).alloc (by simp) _
   have g0:H.heap[wr.heap.size+1]?=some (.cells #[Iv ll,Iv hl,Iv lh,Iv hh] 239 (0,0)):=by
    rw[R];have:=Xv (wr.alloc (.cells #[Iv i0,Iv i1,Iv i2,Iv i3,Iv i4,Iv ll,Iv lh,Iv hl,Iv hh] 234)) (.cells #[Iv ll,Iv hl,Iv lh,Iv hh] 239);rw[X3]at this;exact this
   have HP:Hq (∀j,j<2->∃Y O:Nat,H.cell? ⟨wr.heap.size+1,j*2,none⟩=some (Iv Y)/\H.cell? ⟨wr.heap.size+1,j*2+1,none⟩=some (Iv O)/\Y<eMax/\O<eMax/\[(ll,hl),(lh,hh)].take (j+1)=[(ll,hl),(lh,hh)].take j++[(Y,O)]):=by
    refine Hd λj hj=>?_
    rcases(by omega:j=0\/j=1)with rfl|rfl
    . exact⟨ll,hl,by rw[Xw _ _ _ _ _ _ g0];rfl,by rw[Xw _ _ _ _ _ _ g0];rfl,r,m,rfl⟩
    . exact⟨lh,hh,by rw[Xw _ _ _ _ _ _ g0];rfl,by rw[Xw _ _ _ _ _ _ g0];rfl,n,i,rfl⟩
   have hm:=Hd (F.o.trans (M.mono F.o.size));have gL:=gF.o.below M;have gS:w1.heap.size<=H.heap.size:=Xz gY M.size;have gK:wr.heap.size+1<H.heap.size:=(Xt.1 g0).1;clear R g0 e0 e1 e2 e3 e4 e5 e6 e7 e8 r n m i gF F M
   go_loopw [8,38] (λV u wx=>∃(j:Nat) (Wt:List (Nat×Nat)),j<=2/\u=Iv j/\V=Iv Wt.length/\Bw w wx/\H.heap.size<=wx.heap.size/\(∀q,q≠w.heap.size->q<H.heap.size->wx.heap[q]?=H.heap[q]?)/\Au wx w.heap.size encE (CP Wt)/\Hq (BT (d.tab x) ((ts.take k).flatMap BB++[(ll,hl),(lh,hh)].take j) Wt)) (λ_ u _=>2-(intOf u).toNat)
   case atStart=>exact⟨0,Wt,X0 _,rfl,rfl,hm.o,Xs _,λ_ _ _=>rfl,gL,Hd (by simpa using f.o)⟩
   case round=>
    rename Wd=>wy
    clear f gL;obtain⟨j,W2,hj,rfl,rfl,g4,gz,g5,g3,f⟩:=hrel
    by_cases gU:j<2
    ·obtain⟨Y,O,k1,k2,b1,b2,gI⟩:=HP.o j gU;have q1:=(XR (w:=H) (w':=wy) (a:=⟨wr.heap.size+1,j*2,none⟩) (g5 _ (by dsimp only;omega) gK)).trans k1;have q2:=(XR (w:=H) (w':=wy) (a:=⟨wr.heap.size+1,j*2+1,none⟩) (g5 _ (by dsimp only;omega) gK)).trans k2;have L:=Hd gI;have gx:=Hd g5;have C:=Hd g4;have K:=Hd g3;have hz:(j:Int)<2:=by omega
     clear k1 k2 gI g5 g4 g3;go_upto_region 9 with fail;obtain⟨X,S⟩:=Ex (wy.alloc (.cells #[Iv Y,Iv O] 239));rw[<-S];have E:Bw wy X:=by rw[S];exact Ag _ _
     have g0:X.heap[wy.heap.size]?=some (.cells #[Iv Y,Iv O] 239 (0,0)):=by rw[S];exact Xv _ _
     have z1:X.cell? (Av wy.heap.size)=some (Iv Y):=by rw[Xw _ _ 0 _ _ _ g0];rfl
     have z2:X.cell? (Aw wy.heap.size 1)=some (Iv O):=by rw[Xw _ _ 1 _ _ _ g0];rfl
     have gc:=Hd (C.o.trans (E.mono C.o.size));have gP:=Hd (K.o.below E);have gQ:Hq (∀q,q≠w.heap.size->q<H.heap.size->X.heap[q]?=H.heap[q]?):=Hd λq h1 h2=>(E.block q (by omega)).trans (gx.o q h1 h2)
     have gT:H.heap.size<=X.heap.size:=Xz gz E.size;have v2:=Cq gc.o c2;have vt:=Cq gc.o gB;clear S E g0 q1 q2 K gx C;obtain⟨U,gj⟩:∃q,q=eflip Y (eneg O):=⟨_,rfl⟩;obtain⟨a2,gi⟩:∃q,q=eflip O (eneg O):=⟨_,rfl⟩;have B:Hq (bkey Y O=(U,a2)):=Hd (by unfold bkey;rw[gj,gi])
     have gO:Hq (U=a2↔Y=O):=Hd ⟨λe=>by
      by_cases e2:Y=O
      . exact e2
      . exact(G0 (b:=eneg O) e2 (by rw[<-gj,<-gi,e])).elim,λe=>by rw[gj,gi,e]⟩
     have g6:=Hd (I0 Y O X b1 b2);rw[<-gj,<-gi]at g6;obtain⟨ng,gJ⟩:∃q,q=eneg O:=⟨_,rfl⟩;rw[<-gJ]at g6;have gC:=Hd (gE.o.below gc.o hf.o);clear gj gi gJ b1 b2;go_wp2_with fail;refine g6.o.mono ?_;rintro e w' ⟨rfl,rfl⟩;clear g6 z1 z2;have h6:∃fd:Option Nat,fd=d.tab x (U,a2):=⟨_,rfl⟩;obtain⟨fd,N⟩:=h6;have gy:Hq (Cl 154 #[Pt t,Iv U,Iv a2] X (Sm (.tuple #[Iv ((fd.getD 0:Nat):Int),.bool fd.isSome]) X)):=by
      refine Hd ?_;cases fd with
      | none=>exact II o x t (d.tab x) U a2 X gC.o N.symm
      | some id=>exact IG o x t (d.tab x) U a2 id X gC.o N.symm
     have gR:=Hd N;clear N;go_wp2_with fail;refine gy.o.mono ?_;rintro e w' ⟨rfl,rfl⟩;clear gy v2 vt;go_upto_region 12 with fail;obtain⟨z,go⟩:=Ex (X.alloc (.cells #[Iv U,Iv a2] 239));rw[<-go];have D:Bw X z:=by rw[go];exact Ag _ _
     have g0:z.heap[X.heap.size]?=some (.cells #[Iv U,Iv a2] 239 (0,0)):=by rw[go];exact Xv _ _
     have z1:z.cell? (Av X.heap.size)=some (Iv U):=by rw[Xw _ _ 0 _ _ _ g0];rfl
     have z2:z.cell? (Aw X.heap.size 1)=some (Iv a2):=by rw[Xw _ _ 1 _ _ _ g0];rfl
     have G:=Hd (gc.o.trans (D.mono gc.o.size));have gk:=Hd (gP.o.below D);have HKK:Hq (∀q,q≠w.heap.size->q<H.heap.size->z.heap[q]?=H.heap[q]?):=Hd λq h1 h2=>(D.block q (by omega)).trans (gQ.o q h1 h2)
     have T:H.heap.size<=z.heap.size:=Xz gT D.size;clear go D g0 gP gQ gc gC
     by_cases g7:Y=O
     ·have gN:U=a2:=gO.o.2 g7;have g9:Hq (BT (d.tab x) ((ts.take k).flatMap BB++[(ll,hl),(lh,hh)].take (j+1)) W2):=Hd (by rw[L.o,<-XF];exact f.o.skip λh=>(h g7).elim);have gV:((U:Int) == a2)=true:=by simp[gN]
      clear g7 gN;go_wp2;go_roundw
      case rel=>exact⟨j+1,W2,by omega,by go_num,rfl,G.o,T,HKK.o,gk.o,g9⟩
      case measure=>simp[intOf];omega
     have gV:((U:Int) == a2)=false:=by
      have h1:U≠a2:=λe=>g7 (gO.o.1 e)
      simp;omega
     cases fd with
     | some id=>
       have g9:Hq (BT (d.tab x) ((ts.take k).flatMap BB++[(ll,hl),(lh,hh)].take (j+1)) W2):=Hd (by
        rw[L.o,<-XF];exact f.o.skip λ_ h=>by rw[B.o,<-gR.o]at h;cases h)
       clear g7;go_wp2;go_roundw
       case rel=>exact⟨j+1,W2,by omega,by go_num,rfl,G.o,T,HKK.o,gk.o,g9⟩
       case measure=>simp[intOf];omega
     | none=>
       have g1:=gk.o.lookup (P:=prog) DI underlying254 zeroValue4 (U,a2) false;rw[Sk]at g1;simp only[ZF,if_false]at g1
       by_cases g8:(U,a2)∈W2
       ·rw[XQ g8]at g1
        have g9:Hq (BT (d.tab x) ((ts.take k).flatMap BB++[(ll,hl),(lh,hh)].take (j+1)) W2):=Hd (by
         rw[L.o,<-XF];exact f.o.skip λ_ _=>by rw[B.o];exact g8)
        unfold encE at g1;dsimp only at g1;clear g7 g8;go_wp2;go_roundw
        case rel=>exact⟨j+1,W2,by omega,by go_num,rfl,G.o,T,HKK.o,gk.o,g9⟩
        case measure=>simp[intOf];omega
       ·rw[XW g8]at g1
        have g9:Hq (BT (d.tab x) ((ts.take k).flatMap BB++[(ll,hl),(lh,hh)].take (j+1)) (W2++[(U,a2)])):=Hd (by
         rw[L.o,<-XF];have:=f.o.add (p:=(Y,O)) (by rw[B.o,<-gR.o]) (by rw[B.o];exact g8);rw[B.o]at this;exact this)
        have gX:=Hd (Sl g8);have hv:W2.length<=4194312:=by
         have h1:=f.o.len;have h2:((ts.take k).flatMap BB).length<=2*ts.length:=by
          rw[List.length_flatMap];have:((ts.take k).map λa=>(BB a).length)=List.replicate (ts.take k).length 2:=by
           rw[List.eq_replicate_iff];exact⟨by simp,λb hb=>by obtain⟨q,_,rfl⟩:=X6.1 hb;rfl⟩
          rw[this];simp;omega
         have h3:([(ll,hl),(lh,hh)].take j).length<=2:=by simp;omega
         rw[X4]at h1;omega
        unfold encE at g1;dsimp only at g1;clear g7 g8;go_wp2_with (refine KT (l:=CP W2) (enc:=encE) rfl _ _ _ rfl DI underlying254 (U,a2) (.bool true) rfl rfl rfl gk.o ?_;intro w6 gA Q);rw[gX.o]at gA;have hn:=Hd (G.o.grown Q G.o.size (λq hq=>by cases hq;exact Xs _));have hd:=Hd gA;have h0:H.heap.size<=w6.heap.size:=Xz T Q.size;have hg:Hq (∀q,q≠w.heap.size->q<H.heap.size->w6.heap[q]?=H.heap[q]?):=Hd λq h1 h2=>(Q.block q (by omega) (λe=>h1 (by injection e))).trans (HKK.o q h1 h2)
        clear gA Q;go_roundw
        case rel=>exact⟨j+1,W2++[(U,a2)],by omega,by go_num,by simp,hn.o,h0,hg.o,hd.o,g9⟩
        case measure=>simp[intOf];omega
    ·have h7:j=2:=by omega
     subst h7;have h9:Hq (BT (d.tab x) ((ts.take (k+1)).flatMap BB) W2):=Hd (by rw[W.o];exact f.o);have C:=Hd g4;have K:=Hd g3;have gZ:w1.heap.size<=wy.heap.size:=Xz gS gz;clear g4 g3 g5;go_wp2;go_roundw
     case rel=>exact⟨k+1,W2,by omega,by go_num,rfl,C.o,gZ,K.o,h9⟩
     case measure=>simp[intOf];omega
  ·have gM:k=ts.length:=by omega
   have h8:Hq (∃W':List (Nat×Nat),Ending.returned (Iv (Wt.length:Nat))=.returned (Iv (W'.length:Nat))/\BT (d.tab x) (ts.flatMap BB) W'/\Bw w wr):=Hd ⟨Wt,rfl,by have:=f.o;rw[gM,XP]at this;exact this,F.o⟩;have h5:¬ (k:Int)<ts.length:=by omega
   clear gM;go_wp2;go_ret;exact h8.o
open Go.ChangeMaps (setBlock)
def Mj (n:Nat)(w:Wd)(v:Value)(ks:List (Nat×Nat)):Prop:=∃a c,v=.slice a ks.length c/\∀j q,ks[j]?=some q->∃g,a=some (Av g)/\n<=g/\w.cell? (Aw g (j*2))=some (Iv q.1)/\w.cell? (Aw g (j*2+1))=some (Iv q.2)
def Jz (ks:List (Nat×Nat)){q:Nat×Nat}(h:ks[j]?=some q)(i:Nat)(hi:i<2):(Go.Sort.flatK AU 2 ks.toArray)[j*2+i]! = (AU q)[i]! := by
 obtain⟨H,rfl⟩:=XI.1 h;rw[Go.Sort.get_flatK _ _ _ _ (by simp;omega)];have e1:(j*2+i)/2=j:=by omega
 have e2:(j*2+i)%2=i:=by omega
 rw[e1,e2];congr 2;simp[H]
def So (ks:List (Nat×Nat)):(ks.flatMap AU).length=ks.length*2:=Ch AU 2 (λ_=>rfl) ks
def Sq {cap m:Nat}{ks:List (Nat×Nat)}(h:RowR oG w .slots 239 2 (.slice (some (Av g)) m cap) ks.length (ks.flatMap AU)):Go.Sort.HoldsK AU 2 w g 0 ks.toArray:=by
 intro j I;have g0:j<ks.length*2:=by simpa using I
 refine⟨?_,by rw[XO];exact h.frozen j⟩;rw[XO,h.cell j (by rw[So];exact g0)];have O:j/2<ks.length:=by omega
 have H:j%2<2:=by omega
 have e:j=j/2*2+j%2:=by omega
 obtain⟨q,hq⟩:∃q,ks[j/2]?=some q:=⟨_,Xy O⟩;have h1:=Ef AU 2 (λ_=>rfl) ks (j/2) (j%2) q hq H;have h2:=Jz ks hq (j%2) H;rw[<-e]at h1 h2;rw[h1,h2];obtain h0|h0:j%2=0\/j%2=1:=by omega
 . rw[h0];rfl
 . rw[h0];rfl
def Sr {cap:Nat}{ks:List (Nat×Nat)}(O:n<=g)(h:Go.Sort.HoldsK AU 2 w g 0 ks.toArray):Mj n w (.slice (some (Av g)) ks.length cap) ks:=by
 refine⟨_,_,rfl,λj q H=>⟨g,rfl,O,?_,?_⟩⟩
 . have I:=(XI.1 H).1;have h1:=(h (j*2) (by simp;omega)).1;have h2:=Jz ks H 0 (by omega);rw[Zh]at h2;rw[XO]at h1;rw[h1,h2];rfl
 . have I:=(XI.1 H).1;have h1:=(h (j*2+1) (by simp;omega)).1;have h2:=Jz ks H 1 (by omega);rw[XO]at h1;rw[h1,h2];rfl
theorem Ss {f:Nat×Nat->Option Nat}{ks:List (Nat×Nat)}{Y t:Nat}(row:RowR oG w .slots 239 2 v ks.length (ks.flatMap AU))(U:ks.length<1000000000)(H:Bw W w)
 (n:W.cell? (Av Y)=some (Pt t)) (m:W.cell? (Av t)=some (.map (some mb))) (ge:∀k r,oG k=some r->W.heap.size<=k) (lt:Ac oG w) (O:∀W':Wd,W'.heap[mb]?=W.heap[mb]?->Au W' mb encE lm) (X:∀k,getL lm k=(f k).map (λ(id:Nat)=>Value.int .i64 id))
 (d:Y<W.heap.size) (a:t<W.heap.size) (c:mb<W.heap.size):
 Cl 186 #[v,.func (.func 187) #[] #[Pt Y]] w λe w'=>e=.returned (.tuple #[])/\∃I:List (Nat×Nat),I.Perm ks/\Mj W.heap.size w' v I/\Bw W w':=by
 rcases row.ex with ⟨rfl,h0⟩|⟨g,cap,l,rfl,g1,s,_⟩
 ·have hk:ks=[]:=YC h0;subst hk;have g0:=AnyF.slices_SortFunc_none Tryz.sortKeys none 0 (.func (.func 187) #[] #[Pt Y]) w
  change Cl 186 _ _ _ at g0
  refine g0.mono ?_;rintro e w' ⟨rfl,rfl⟩;exact⟨rfl,[],List.Perm.refl _,⟨none,0,rfl,λj q h=>by simp at h⟩,H⟩
 . have h1:=ge g _ g1;refine(RX (f:=f) (Sq row) (lt g _ g1) U ((H.cell (p:=Av Y) d).trans n) ((H.cell (p:=Av t) a).trans m) (O w (H.block mb c)) X (by omega) (by omega) (by omega)).mono ?_;rintro e w' ⟨rfl,I,Z,hh,hs,e1,e2,i,hk⟩;have:=Z.length_eq;refine⟨rfl,I,Z,?_,⟨e1.trans H.os,e2.trans H.tape,i.trans H.output,Xz H.size hs,λb hb=>(hk b (X5 hb H.size) (by omega)).trans (H.block b hb)⟩⟩;rw[<-this];exact Sr h1 hh
def Su {F:Fence}{c:Code}(R:Wd->Prop)(h:∃A,c.wpIn F n P (λe H W'=>match e with|.normal=>H=A/\R W'|_=>False) a w/\∀W',R W'->Q .normal A W'):c.wpIn F n P Q a w:=by
 obtain⟨A,h1,h2⟩:=h;refine wpIn_mono h1 ?_;intro e H W' h;cases e with
 | normal=>obtain⟨rfl,h3⟩:=h;exact h2 _ h3
 | _=>exact h.elim
structure YS (n₀:Nat)(W w2:Wd)(Bx t:Nat)(ak:Option Addr)(ks:List (Nat×Nat))(M M1:Nat->Prop)(wr:Wd):Prop where
 low:Below n₀ W wr
 box:wr.cell? (Av Bx)=some (Pt t)
 keys:∀j q,ks[j]?=some q->∃g,ak=some (Av g)/\W.heap.size<=g/\g<w2.heap.size/\wr.cell? (Aw g (j*2))=some (Iv q.1)/\wr.cell? (Aw g (j*2+1))=some (Iv q.2)
 nb:¬ M1 Bx
 sub:∀k,M1 k->M k\/w2.heap.size<=k
 lt:∀k,M k->k<W.heap.size
 ge:∀k,M1 k->n₀<=k
 wr:Wr (λk=>n₀<=k) w2 wr
def YS.go {X t:Nat}{Z:Option Addr}{ks:List (Nat×Nat)}{H a:Nat->Prop}(h:YS n₀ W w2 X t Z ks M H wr)(m:n₀<=W.heap.size)(hx:Bw wr wx)(O:Wr H wx w')(U:∀k,a k->H k\/wx.heap.size<=k):YS n₀ W w2 X t Z ks M a w':=by
 have l:=h.low.size;have i:=h.wr.size;have f:=hx.size;have keep:∀{b k:Nat} {v:Value},wr.cell? (Aw b k)=some v->¬ H b->w'.cell? (Aw b k)=some v:=λ{b k v} Y hb=>by
  have g0:b<wr.heap.size:=Ad Y;exact(Co ((hx.cell (p:=Aw b k) g0).trans Y) (O.keep b (by omega) hb))
 refine⟨h.low.trans ((hx.mono (by omega)).trans (O.below h.ge (by omega))),keep h.box h.nb,λj q c=>?_,λe=>?_,λk hk=>?_,h.lt,λk hk=>?_,h.wr.trans ((Wr.of_below hx (λk=>n₀<=k)).trans O (λ_ _ e=>e) (λk _ hk=>h.ge k hk)) (λ_ _ e=>e) (λ_ _ e=>e)⟩
 ·obtain⟨g,e,d,a2,a3,a4⟩:=h.keys j q c;have I:¬ H g:=λI=>by
   rcases h.sub g I with h1|h1
   . have:=h.lt g h1;omega
   . omega
  exact⟨g,e,d,a2,keep a3 I,keep a4 I⟩
 ·rcases U X e with h1|h1
  . exact h.nb h1
  . have:=Ad h.box;simp at this;omega
 ·rcases U k hk with h1|h1
  . exact h.sub k h1
  . right;omega
 ·rcases U k hk with h1|h1
  . exact h.ge k h1
  . omega
theorem Sv (n n₀ X t v:Nat){o:Own}{f:Nat×Nat->Option Nat}(A:AS o w0 v t f)(hlt:Ac o w0)(h0:w0.heap.size<=n₀)(w:Wd)(hw:Below n₀ w0 w)(hn0:n₀<=w.heap.size)(hBn:n₀<=X)(m:w.cell? (Av X)=some (Pt t))
 (U:∀l:List ((Nat×Nat)×Value),(l.map Prod.fst).Nodup->(∀k,getL l k=(f k).map (λ(id:Nat)=>Value.int .i64 id))->l.length<1000000000):
 LW Fence.wide n 0 prog 185 #[Pt X] (λp:(Nat×Nat)×Nat=>#[encE p.1,Iv p.2]) n₀ (· = X) (λxs=>(xs.map Prod.fst).Nodup/\∀k id,(k,id)∈xs↔f k=some id) w:=by
 intro l J M W gV gX Q h6 hY hJ;have k5:X<W.heap.size:=X5 (Ad m) Q.size;have gb:Below n₀ w0 W:=hw.trans (Q.below (λk h=>h.1) hn0);have cB:W.cell? (Av X)=some (Pt t):=Co m (Q.keep X (Ad m) (λh=>h.2 rfl));obtain⟨mb,lm,h1,h2,h3,D⟩:=A.ex;have hX:t<w0.heap.size:=(Xt.1 h1).1;have hT:W.heap[t]?=some (.cells #[.map (some mb)] 222 (0,0)):=(gb.block t (by omega)).trans h1;have cT:=cell1 hT;have k0:mb<w0.heap.size:=h3.lt;obtain⟨es,clock,gN,R,g9,gA⟩:=h3.ex;have C:W.heap[mb]?=some (.map es clock):=(gb.block mb (by omega)).trans gN;have gK:=run_range_map (P:=prog) W 220 _ _ mb es clock underlying220 C;obtain⟨W1,N⟩:=Ex (W.alloc (.mapIter (some mb) clock #[] clock));have gT:Bw W W1:=by rw[N];exact Ag _ _
 have gQ:W1.heap[W.heap.size]?=some (.mapIter (some mb) clock #[] clock):=by rw[N];exact Xv _ _
 rw[<-N]at gK;have gO:mb<W.heap.size:=by have:=gb.size;omega
 have gx:es.size<1000000000:=by
  have e1:=Yf List.length R;have e2:=U lm h3.nodup D;simp at e1;omega
 have ho:=Hd gx;have gD:Hq (∀W',W'.heap[mb]?=W.heap[mb]?->Au W' mb encE lm):=Hd λW' hh=>⟨⟨es,clock,hh.trans C,R,g9,gA⟩,h3.nodup⟩
 have gc:=Hd D;have hN:=Hd (U lm h3.nodup D);have hI:=Hd h3.nodup;have HM:=Hd C;have gH:=Hd g9;have hd:=Hd gA;have hc:=Hd R;have hW:=Hd gT;have hb:=Hd gQ;have HJ:=Hd hJ;have hK:=Hd (h6 X rfl);have HY:=Hd hY;have h8:=Hd gV;have h9:=Hd gX;obtain⟨r,hr⟩:=Ex W.heap.size;rw[<-hr]at gK hb;have HR:=Hd hr;clear U gx hJ hY gV gX gT gQ N C g9 gA R h1 h2 h3 D hT gN A Q h6 hw hr;refine callsIn_of_wp func185 rfl trivial ?_ rfl;refine wpIn_wide.2 ?_;simp only[ntmps185,Y6,XL,Y2,Nat.reduceAdd,Nat.reduceSub,YJ,YK,Za,YP,Yv,YX];go_wp2
 go_loopg [3] (leftOf es #[]).size (λgk s3 wr=>∃seen ks sl oG,KeyS W mb r clock es seen ks sl s3 oG wr/\gk=(leftOf es seen).size)
 case atStart=>exact⟨#[],[],[],λ_=>none,⟨hW.o,hb.o,CO.start es clock,RowR.nil _ _ _ _ _,λk q h=>(by cases h),λk q h=>(by cases h),rfl,by have h:(leftOf es #[]).size<=es.size:=(by unfold leftOf;exact Array.size_filter_le);simpa using h⟩,rfl⟩
 case round=>
  obtain⟨seen,ks,sl,oG,I,gw⟩:=hrel;have L:=(I.low.block mb gO).trans HM.o;have g8:ks.length<1000000000:=by have:=I.cnt;have:=ho.o;omega
  rcases run_next_at (P:=prog) wr 0 r mb clock clock seen es clock I.it L gH.o (Xs _)with ⟨hz,g4⟩|⟨e,B,w1,g6,g4⟩
  ·have gh:=I.came.keysOf (w:=W) (b:=mb) hd.o hz hc.o;have gg:=Ss I.row g8 (I.low.trans (X7 _ _)) cB cT (λk q h=>(I.ge k q h).2) I.lt gD.o gc.o (Ad cB) (Ad cT) gO;have gG:=Hd gh;have gF:=Hd gg;clear I hz gh gg;go_wp2_with fail;refine gF.o.mono ?_;rintro x w2 ⟨rfl,H,hp,hu,g5⟩;obtain⟨ak,ck,rfl,ga⟩:=hu;have HP:=Hd (hp.trans gG.o);have hR:=Hd ga;have HB2:=Hd g5;have h5:J [] M w2:=h9.o _ _ _ _ HJ.o ⟨g5.os,g5.tape,g5.output,g5.size,λk hk _=>g5.block k hk⟩;have hP:=Hd h5;clear hp ga g5 h5 g4 L g8 gw;go_wp2_with fail;refine(wpIn_wide (n:=n)).1 ?_;obtain⟨xs,gu⟩:=Ex (H.map (λk=>(k,(f k).getD 0)));have gi:=RY HP.o hI.o gc.o gu;have k3:H.length<1000000000:=by have h1:=HP.o.length_eq;have h2:=hN.o;simp at h1;omega
   have h7:=Hd gu;have gt:=Hd gi;have gI:YS n₀ W w2 X t ak H M M w2:=by
    refine⟨HB2.o.mono (by omega),(Cq HB2.o cB),λj q Y=>?_,hK.o,λk h=>.inl h,λk hk=>(h8.o _ _ _ HJ.o k hk).2,λk hk=>(h8.o _ _ _ HJ.o k hk).1,Wr.refl _ _⟩;obtain⟨g,a1,a2,a3,a4⟩:=hR.o j q Y;exact⟨g,a1,a2,Ad a3,a3,a4⟩
   have hC:=Hd gI;have hZ:prog.follows .mixedOrders=true:=by kernel_rfl
   clear gu gi gI
   gi_loopw [27] (λi wr=>∃(k:Nat) (Z:Nat->Prop),k<=H.length/\i=Iv k/\J (xs.take k) Z wr/\YS n₀ W w2 X t ak H M Z wr) (λi _=>H.length-(intOf i).toNat)
   case atStart=>exact⟨0,M,X0 _,rfl,hP.o,hC.o⟩
   case round=>
    obtain⟨k,Z,hk,rfl,F,I⟩:=hrel
    by_cases gv:k<H.length
    ·obtain⟨q,Y⟩:∃q,H[k]?=some q:=⟨_,Xy gv⟩;obtain⟨g,hB,hA,hv,e0,e1⟩:=I.keys k q Y;subst hB;have k4:(k:Int)<H.length:=by omega
     have s:=I.box;have z:=(I.low.cell (p:=Av t) (by show t<n₀;omega)).trans cT;obtain⟨O,g0⟩:=Ex (wr.alloc (.cells #[Iv q.1,Iv q.2] 239));have g2:Bw wr O:=by rw[g0];exact Ag _ _
     have gZ:J (xs.take k) Z O.drew:=h9.o _ _ _ _ F (by
      have:=(Wr.of_below g2 (λk=>n₀<=k/\¬ Z k)).drew;exact this)
     have g7:=RZ (G:=λxs:List ((Nat×Nat)×Nat)=>(xs.map Prod.fst).Nodup/\∀k id,(k,id)∈xs↔f k=some id) gt.o (k:=k) (x:=(q,(f q).getD 0)) (by rw[h7.o,Yq,Y];rfl);obtain⟨V,g7,gf⟩:=g7;obtain⟨fn,tmps,assign,body,hy,gU⟩:=HY.o _ (q,(f q).getD 0) Z O.drew gZ ⟨V,g7⟩;have hi:mb<n₀:=by omega
     have gE:=LZ (gD.o O.drew ((g2.block mb (by have:=I.low.size;omega)).trans (I.low.block mb hi))) gc.o q;have gS:O.heap[wr.heap.size]?=some (.cells #[Iv q.1,Iv q.2] 239 (0,0)):=by rw[g0];exact Xv _ _
     obtain⟨x0,x1,_⟩:=cells2 gS;have b3:=Cq g2 s;have t3:=Cq g2 z;simp only[encE]at hy;have hG:=Hd gU;have T:=Hd I;have hf:=Hd g2;have hD:=Hd gf;have gC:Hq (_=O):=Hd g0.symm;obtain⟨b6,gB⟩:=Ex wr.heap.size;have hU:Hq (_=b6):=Hd gB.symm;rw[<-gB]at x0 x1;clear gS I g2 gZ F g7 gU gf g0 gB gv hA hv Y s z
     gi_wp2
     rw[gC.o,hU.o];refine Su (λW'=>∃u,J (xs.take k++[(q,(f q).getD 0)]) u W'/\Wr Z O.drew W'/\∀k,u k->Z k\/O.drew.heap.size<=k) ?_;apply Exists.intro;refine⟨?_,?_⟩
     ·gi_region_with_o (refine⟨λh=>(by cases h),hG.o.mono ?_⟩;rintro e W4 ⟨rfl,u,E,S,K⟩)
      all_goals exact⟨rfl,u,E,S,K⟩
     ·rintro W4 ⟨u,E,S,K⟩;have hO:=Hd E;have hF:=Hd (T.o.go (by omega) (hf.o.trans ((An O 1).mono hf.o.size)) S K);clear E S K x0 x1 b3 t3 e0 e1 gE hy
      gi_wp2
      go_roundw
      case rel=>exact⟨k+1,u,by omega,by go_num,by rw[hD.o];exact hO.o,hF.o⟩
      case measure=>simp[intOf];omega
    ·obtain rfl:k=H.length:=by omega
     have ha:=Hd F;have T:=Hd I;clear F I
     gi_wp2
     go_end0;have A:xs.take H.length=xs:=XK (by rw[h7.o];simp);rw[A]at ha;exact⟨⟨_,rfl⟩,xs,Z,gt.o,ha.o,(Wr.of_below HB2.o (λk=>n₀<=k)).trans T.o.wr (λ_ _ e=>e) (λ_ _ e=>e),λk hk=>(T.o.sub k hk).imp id λh=>Xz HB2.o.size h⟩
  ·have gz:=(mem_left B).1;obtain⟨q,Y⟩:∃q,e.key=encE q:=by
    have h1:(e.key,e.val)∈es.toList.map (λe=>(e.key,e.val)):=X6.2 ⟨e,gz,rfl⟩;rw[hc.o]at h1;obtain⟨p,_,h2⟩:=X6.1 h1;exact⟨p.1,(Prod.mk.inj h2).1.symm⟩
   obtain⟨w2,g3⟩:=Ex (setBlock w1 r (.mapIter (some mb) clock (seen.push e.born) clock));have hg:=g3;obtain⟨O,g0⟩:=Ex (w2.alloc (.cells #[Iv q.1,Iv q.2] 239));have g2:Bw w2 O:=by rw[g0];exact Ag _ _
   obtain⟨row3,y⟩:=I.row3 g6 g3 g2;have z2:w2.heap.size=wr.heap.size:=by rw[g3];rcases g6 with rfl|rfl<;>simp[setBlock]
   have gJ:r<wr.heap.size:=(Xt.1 I.it).1;have gM:mb≠r:=by have:=HR.o;omega
   have gY:w2.heap[mb]?=some (.map es clock):=by rw[g3];rcases g6 with rfl|rfl<;>simp[setBlock,ZG,Ye gM]<;>exact L
   have i2:w2.heap[r]?=some (.mapIter (some mb) clock (seen.push e.born) clock):=by rw[g3];rcases g6 with rfl|rfl<;>simp[setBlock,gJ]
   have gy:=run_entry_at (P:=prog) w2 r mb clock seen es clock e i2 gY gz hd.o;have hH:Hq (∀(g1 k1:Nat) (d:Wd) (o1:Own),RowR o1 d .slots 239 2 (.slice (some (Av g1)) (ks.length+1) k1) (ks.length+1) (ks.flatMap AU++AU q)->Chg (· = .slots) oG o1 O d->Ac o1 d->KeyS W mb r clock es (seen.push e.born) (ks++[q]) (sl++[e]) (.slice (some (Av g1)) (ks.length+1) k1) o1 d):=
    Hd λg1 k1 d o1 a b c=>I.next (by have:=HR.o;omega) B Y g6 g3 g2 a b c
   have hE:=Hd (left_shrinks es seen e B);have cB2:O.cell? (Av w2.heap.size)=some (Iv q.1):=by rw[g0,Xw _ _ 0 _ _ _ (Xv w2 _)];rfl
   have s:O.cell? (Aw w2.heap.size 1)=some (Iv q.2):=by rw[g0,Xw _ _ 1 _ _ _ (Xv w2 _)];rfl
   have hQ:=Hd gw;have hn:=Hd g8;have hj:=Hd row3;have hm:=Hd y;rw[Y]at g4 gy;rw[<-g3]at g4;unfold encE at g4 gy;have gC:Hq (_=O):=Hd g0.symm;clear I B gz Y g6 g3 hg g0 g2 row3 y z2 gJ gM gY i2 L gw g8;go_upto_region 5 with fail;rw[gC.o]
   go_wp2_with (at_builtin
                refine Fu (wr:=O) 255 239 2 16 _ underlying255 RS rfl (by decide) rfl _ _ rfl rfl rfl rfl rfl rfl (by simp[Value.oneCell']) hj.o hm.o hn.o (by decide) ?_;intro g1 k1 d o1 gL gR gP;have hL:=Hd (hH.o g1 k1 d o1 gL gR gP);clear gL gR gP)
   go_roundg (leftOf es (seen.push e.born)).size
   case rel=>exact⟨_,_,_,_,hL.o,rfl⟩
   case measure=>have h1:=hE.o;have h2:=hQ.o;omega
abbrev ZK:=@List.mem_of_mem_erase
def CQ:∀(n:Nat) (l:List Nat),l.Nodup->(∀x∈l,x<n)->l.length<=n
 | 0,l,_,h=>by
   cases l with
   | nil=>simp
   | cons a l=>have:=h a (by simp);omega
 | n+1,l,hn,h=>by
   by_cases H:n∈l
   ·have h1:=CQ n (l.erase n) (hn.erase n) (λx hx=>by
     have h2:=h x (ZK hx);have h3:x≠n:=λe=>by subst e;exact(List.Nodup.not_mem_erase hn) hx
     omega)
    rw[List.length_erase_of_mem H]at h1;omega
   ·have h1:=CQ n l hn (λx hx=>by
     have h2:=h x hx;have h3:x≠n:=λe=>by subst e;exact H hx
     omega)
    omega
theorem Sw (H:∀lo hi id,d.tab x (lo,hi)=some id->Aa d id=some ⟨x,lo,hi⟩)(O:∀i b,Aa d i=some b->i<n)(c:n<1000000000)(l:List ((Nat×Nat)×Value))(I:(l.map Prod.fst).Nodup)(Y:∀k,getL l k=(d.tab x k).map (λ(id:Nat)=>Value.int .i64 id)):l.length<1000000000:=by
 have hk:∀k∈l.map Prod.fst,∃id,d.tab x k=some id:=λk hk=>by
  cases h:d.tab x k with
  | some id=>exact⟨id,rfl⟩
  | none=>
    have h1:=Db (l:=l) (k:=k);rw[Y k,h]at h1;obtain⟨p,X,rfl⟩:=X6.1 hk;exact absurd rfl (h1.1 rfl p X)
 have g0:(((l.map Prod.fst)).map λk=>(d.tab x k).getD 0).Nodup:=by
  refine YT.2 (I.imp_of_mem ?_);intro a b Z hb g2 e;obtain⟨i,hi⟩:=hk a Z;obtain⟨j,U⟩:=hk b hb;rw[hi,U]at e;simp only[Z7]at e;subst e;have e1:=H a.1 a.2 _ hi;have e2:=H b.1 b.2 _ U;rw[e1]at e2;simp only[Yd,BN.mk.injEq,true_and]at e2;exact g2 (Prod.ext e2.1 e2.2)
 have:=CQ n _ g0 (λi hi=>by
  obtain⟨k,g1,rfl⟩:=X6.1 hi;obtain⟨id,h1⟩:=hk k g1;rw[h1];exact O _ _ (H k.1 k.2 _ h1))
 simp at this;omega
attribute [local go_sem] Oper.semAt_some
def Sx (t:Nat)(w:Wd):Cl 175 #[Pt t] w λe w'=>e=.returned (.func (.func 185) #[] #[Pt w.heap.size])/\w'=w.alloc (.cells #[Pt t] 192):=by
 have g0:∀(fn:Fn) (first cap:Array Value) (w:Wd),(Instr.makeFunc fn first cap).run prog w=.ok (.func fn first cap) w:=λ_ _ _ _=>rfl
 go_enter func175,ntmps175
 go_wp2;go_ret;exact⟨rfl,rfl⟩
def Bf (d:Af)(y:Nat)(pre:List ((Nat×Nat)×Nat)):List TN:=(pre.filter (λp=>Cu d y p.2)).map (λp=>tnOf d y p.2)
structure TurS (d:Af)(y:Nat)(w:Wd)(sb:Nat)(pre:List ((Nat×Nat)×Nat))(M:Nat->Prop)(W:Wd)(v:Value)(oG:Own):Prop where
 mm:∀k,M k↔(k=w.heap.size\/k=w.heap.size+1\/k=w.heap.size+2\/oG k=some .slots)
 low:Bw w W
 boxs:W.heap[w.heap.size]?=some (.cells #[Pt sb] 113 (0,0))
 boxy:W.heap[w.heap.size+1]?=some (.cells #[Iv y] 3 (0,0))
 boxg:W.heap[w.heap.size+2]?=some (.cells #[v] 229 (0,0))
 row:RowR oG W .slots 234 9 v (Bf d y pre).length ((Bf d y pre).flatMap tnV)
 lt:Ac oG W
 ge:∀k r,oG k=some r->r=.slots/\w.heap.size+3<=k
def TurS.no {pre:List ((Nat×Nat)×Nat)}(h:TurS d y w sb pre M W v oG)(k:Nat)(hk:k<w.heap.size+3):oG k=none:=by
 cases e:oG k with
 | none=>rfl
 | some r=>have:=(h.ge k r e).2;omega
def TurS.minds {pre:List ((Nat×Nat)×Nat)}(h:TurS d y w sb pre M W v oG)(I:Wr (λk=>w.heap.size<=k/\¬ M k) W W'):TurS d y w sb pre M W' v oG:=by
 have hk:∀k,k<W.heap.size->M k->W'.heap[k]?=W.heap[k]?:=λk h1 h2=>I.keep k h1 (λe=>e.2 h2)
 have H:=h.mm
 refine⟨H,h.low.trans (I.below (λk h=>h.1) h.low.size),(hk _ (Xt.1 h.boxs).1 ((H _).2 (.inl rfl))).trans h.boxs,(hk _ (Xt.1 h.boxy).1 ((H _).2 (.inr (.inl rfl)))).trans h.boxy,
  (hk _ (Xt.1 h.boxg).1 ((H _).2 (.inr (.inr (.inl rfl))))).trans h.boxg,h.row.keep (λg O=>hk g (h.lt g _ O) ((H g).2 (.inr (.inr (.inr O))))) (λ_ h=>h),h.lt.mono I.size,h.ge⟩
def Sy {pre:List ((Nat×Nat)×Nat)}{p:(Nat×Nat)×Nat}(h:Cu d y p.2=false):Bf d y (pre++[p])=Bf d y pre:=by unfold Bf;rw[Yi];simp[h]
def Sz {pre:List ((Nat×Nat)×Nat)}{p:(Nat×Nat)×Nat}(h:Cu d y p.2=true):Bf d y (pre++[p])=Bf d y pre++[tnOf d y p.2]:=by unfold Bf;rw[Yi];simp[h]
def TurS.skip {pre:List ((Nat×Nat)×Nat)}{p:(Nat×Nat)×Nat}(h:TurS d y w sb pre M W v oG)(H:Cu d y p.2=false):TurS d y w sb (pre++[p]) M W v oG:=
 ⟨h.mm,h.low,h.boxs,h.boxy,h.boxg,by rw[Sy H];exact h.row,h.lt,h.ge⟩
def TurS.add {pre:List ((Nat×Nat)×Nat)}{H:Own}{p:(Nat×Nat)×Nat}(h:TurS d y w sb pre M W v oG)(Z:Cu d y p.2=true)
 (U:RowR H W1 .slots 234 9 v' ((Bf d y pre).length+1) (((Bf d y pre).flatMap tnV)++tnV (tnOf d y p.2))) (I:Chg (· = .slots) oG H W W1) (hl:Ac H W1) {n:Nat} (b:n<=W.heap.size):
 ∃M',(∃v oG,TurS d y w sb (pre++[p]) M' (W1.setCell (Av (w.heap.size+2)) v') v oG)/\Wr (λk=>M k\/n<=k) W (W1.setCell (Av (w.heap.size+2)) v')/\∀k,M' k->M k\/n<=k:=by
 have g0:w.heap.size+2<W.heap.size:=(Xt.1 h.boxg).1;have Y:=(I.alien (by omega) (h.no w.heap.size (by omega))).trans h.boxs;have X:=(I.alien (by omega) (h.no (w.heap.size+1) (by omega))).trans h.boxy;have k1:=(I.alien g0 (h.no (w.heap.size+2) (by omega))).trans h.boxg;have O:∀k r,H k=some r->r=.slots/\w.heap.size+3<=k:=λk r hk=>by
  by_cases e:H k=oG k
  . rw[e]at hk;exact h.ge k r hk
  ·obtain⟨c,q,a2,a3⟩:=I.new k e;rw[hk]at a2;cases a2
   exact⟨a3,by omega⟩
 refine⟨λk=>k=w.heap.size\/k=w.heap.size+1\/k=w.heap.size+2\/H k=some .slots,⟨v',H,⟨λk=>Iff.rfl,?_,?_,?_,A2 k1 _,?_,hl.mono (by simp[World.setCell]),O⟩⟩,?_,λk hk=>?_⟩
 . have:Bw w W1:=h.low.trans ⟨I.os,I.tape,I.output,I.size,λk hk=>I.alien (X5 hk h.low.size) (h.no k (by omega))⟩;exact this.setCell (p:=⟨w.heap.size+2,0,Option.none⟩) (by show _<=w.heap.size+2;omega) _
 . exact(Az (by show _≠w.heap.size+2;omega) _).trans Y
 . exact(Az (by show _≠w.heap.size+2;omega) _).trans X
 . rw[Sz Z,X4,Z2];simp only[Ze,YY,List.flatMap_nil,Y5];exact U.setCell_other (λe=>by have:=(O _ _ e).2;simp at this) _
 . have:Wr (λk=>M k\/n<=k) W W1:=⟨I.os,I.tape,I.output,I.size,λk hk a=>I.block k hk λr U e=>a (.inl ((h.mm k).2 (.inr (.inr (.inr (by rw[U,e]))))))⟩;exact this.setCell (p:=⟨w.heap.size+2,0,Option.none⟩) (.inl (.inl ((h.mm _).2 (.inr (.inr (.inl rfl)))))) _
 ·rcases hk with hk|hk|hk|hk
  . exact .inl ((h.mm k).2 (.inl hk))
  . exact .inl ((h.mm k).2 (.inr (.inl hk)))
  . exact .inl ((h.mm k).2 (.inr (.inr (.inl hk))))
  ·by_cases e:H k=oG k
   . rw[e]at hk;exact .inl ((h.mm k).2 (.inr (.inr (.inr hk))))
   . have:=(I.new k e).1;right;omega
abbrev ZP:=@List.nodup_iff_pairwise_ne
theorem Mk (O:∀lo hi id,d.tab x (lo,hi)=some id->Aa d id=some ⟨x,lo,hi⟩)(U:∀i b,Aa d i=some b->i<n){xs:List ((Nat×Nat)×Nat)}(H:(xs.map Prod.fst).Nodup)(X:∀k id,(k,id)∈xs->d.tab x k=some id):xs.length<=n:=by
 have h1:(xs.map Prod.snd).Nodup:=by
  rw[ZP,YT];rw[ZP,YT]at H;refine H.imp_of_mem λ{a b} c hb g0 e=>g0 ?_
  have I:=O _ _ _ (X a.1 a.2 c);have Y:=O _ _ _ (X b.1 b.2 hb);rw[e,Y]at I;cases a;cases b
  simp at I;exact Prod.ext I.1.symm I.2.symm
 have h2:=CQ n (xs.map Prod.snd) h1 (λi hi=>by
  obtain⟨q,Z,rfl⟩:=X6.1 hi;exact U _ _ (O _ _ _ (X q.1 q.2 Z)))
 simpa using h2
def Ml:(prog.info? 234).map (λi=>(i.zero,i.size,i.bytes))=some (some (.agg #[Iv 0,Iv 0,Iv 0,Iv 0,Iv 0,Iv 0,Iv 0,Iv 0,Iv 0]),9,72):=by kernel_rfl
def Mm (N:RN)(ll lh hl hh:Nat):tnV ⟨N,ll,lh,hl,hh⟩=[Iv N.id,Iv N.v,Iv N.lo,Iv N.hi,Iv N.refs,Iv ll,Iv lh,Iv hl,Iv hh]:=rfl
theorem S0 {o:Own}(h:A3 o w sb d)(hlt:Ac o w)(hk:Ai d V)(x y:Nat)(hx:x<d.vars.length):
 Cl 158 #[Pt sb,Iv x,Iv y] w λe w'=>∃(v:Value) (U:List Nat),e=.returned v/\U.Nodup/\(∀i,i∈U↔Turns (Aa d) x y i)/\TRow w' w.heap.size v (U.map (tnOf d y))/\Bw w w':=by
 obtain⟨s,h⟩:=h;obtain⟨gt,ct,hC,gE,hE,hF⟩:=h.tabAt hx;obtain⟨c0,c1,c2,c3,c4,f0⟩:=cells5 h.blk;rw[hC]at c2;obtain⟨t,ht⟩:=Ex (s.ts.getD x 0);rw[<-ht]at gE;have gu:=h.tab x hE;rw[<-ht]at gu;have hy:=Hd gu;have gq:=Hd h;have gr:=Hd hlt;have X:=Hd hk;clear ht gu;have k0:(x:Int)<s.ts.length:=by omega
 obtain⟨w1,gB⟩:=Ex (((w.alloc (.cells #[Pt sb] 113)).alloc (.cells #[Iv y] 3)).alloc (.cells #[.slice none 0 0] 229));have HW1:Hq (_=w1):=Hd gB.symm;have gp:Bw w w1:=by rw[gB];exact((Ag _ _).alloc (by simp) _).alloc (by simp;omega) _
 have c2':=Cq gp c2;have hr:=Cq gp gE;have cB:w1.cell? (Av w.heap.size)=some (Pt sb):=by rw[gB];exact cell1 ((Yt _ _ _ (by simp;omega)).trans ((Yt _ _ _ (by simp)).trans (Xv w _)))
 have HE:=Hd (λt W=>Sx t W);clear c0 c1 c2 c3 c4 f0 gE gB;refine(aI (n:=9)).1 ?_;refine callsIn_of_wp_marks func158 rfl trivial ?_;refine wpIn_wide.2 ?_;simp only[ntmps158,Y6,XL,Y2,Nat.reduceAdd,Nat.reduceSub,YJ,YK,Za,YP,Yv,YX];go_upto_region 2 with fail;rw[HW1.o];go_wp2_with fail;refine(HE.o _ _).mono ?_;rintro e w2 ⟨rfl,hB⟩;go_wp2_with fail;obtain⟨I,g3⟩:=Ex (w1.alloc (.cells #[Pt t] 192));rw[<-g3];have h4:Bw w I:=by rw[g3];exact gp.alloc gp.size _
 have hs1:w1.heap.size=w.heap.size+3:=by rw[<-HW1.o];simp
 have k4:I.heap.size=w.heap.size+4:=by rw[g3];simp[hs1]
 have hP:I.heap[w.heap.size]?=some (.cells #[Pt sb] 113 (0,0)):=by rw[g3,<-HW1.o];exact(Yt _ _ _ (by simp<;>omega)).trans ((Yt _ _ _ (by simp<;>omega)).trans ((Yt _ _ _ (by simp)).trans (Xv w _)))
 have hO:I.heap[w.heap.size+1]?=some (.cells #[Iv y] 3 (0,0)):=by
  rw[g3,<-HW1.o];have h0:=Xv (w.alloc (.cells #[Pt sb] 113)) (.cells #[Iv y] 3);rw[X3]at h0;exact(Yt _ _ _ (by simp<;>omega)).trans ((Yt _ _ _ (by simp)).trans h0)
 have hQ:I.heap[w.heap.size+2]?=some (.cells #[.slice none 0 0] 229 (0,0)):=by
  rw[g3,<-HW1.o];have h0:=Xv ((w.alloc (.cells #[Pt sb] 113)).alloc (.cells #[Iv y] 3)) (.cells #[.slice none 0 0] 229);rw[X3,X3]at h0;exact(Yt _ _ _ (by simp)).trans h0
 have h5:I.cell? (Av w1.heap.size)=some (Pt t):=by rw[g3];exact cell1 (Xv w1 _)
 have gF:=Sw (d:=d) (x:=x) (λlo hi id e=>(X.o.tab x hx lo hi id).1 e) (n:=1048577) (λi b e=>by have:=gq.o.tk_lt e;omega) (by omega);have HG:=Hd (Sv 8 w.heap.size w1.heap.size t x hy.o gr.o (Xs _) I h4 (by omega) (by omega) h5 gF);clear gF h5 g3 hB c2' hr cB HE hF gp;refine(wpIn_wide (n:=9)).1 ?_;refine RQ rfl (by omega) (gf:=185) (lb:=#[Pt w1.heap.size]) rfl trivial (YF func185 (by kernel_rfl) rfl) HG.o (by omega) (by rintro k rfl;omega) (λp=>rfl)
  (λpre M W=>∃v oG,TurS d y w sb pre M W v oG) ?_ ?_ (λk=>k=w.heap.size\/k=w.heap.size+1\/k=w.heap.size+2) (by rintro k rfl h;omega) ⟨.slice none 0 0,λ_=>none,(⟨λk=>by simp,h4,hP,hO,hQ,RowR.nil _ _ _ _ _,λk r h=>(by cases h),λk r h=>(by cases h)⟩:TurS d y w sb [] _ I (.slice none 0 0) (λ_=>none))⟩
  (λp a' W W1=>a'={ tmps:=#[Value.pointer (some { block:=sb,off:=0 }),Value.int IntKind.i64 ↑x,Value.int IntKind.i64 ↑y,Value.pointer (some { block:=w.heap.size,off:=0 }),undef,Value.pointer (some { block:=w.heap.size+1,off:=0 }),Value.slice none 0 0,Value.pointer (some { block:=w.heap.size+1+1,off:=0 }),undef,Value.int IntKind.i64 ↑p.2,undef,undef,undef,Value.pointer (some { block:=sb,off:=0 }),Value.pointer (some { block:=sb,off:=0 }),Value.pointer (some { block:=sb,off:=2 }),Value.slice (some { block:=gt,off:=0 }) s.ts.length ct,Value.int IntKind.i64 ↑x,Value.pointer (some { block:=gt,off:=x }),Value.pointer (some { block:=t,off:=0 }),Value.func (Fn.func 185) #[] #[Value.pointer (some { block:=w.heap.size+3,off:=0 })],encE p.1,Value.int IntKind.i64 ↑p.2,undef,undef,undef,undef,undef,undef,undef,undef,undef,undef,undef,undef,undef,undef,undef,undef,undef,undef,undef,undef,undef,undef,undef,undef,undef,undef,undef,undef,undef,undef,undef,undef,undef,undef,undef,undef,undef,undef,undef,undef,undef,undef,undef,undef,undef,undef,undef,undef],defers:=[] }) ?_ ?_ ?_ ?_
 ·rintro pre M W ⟨v,oG,H⟩ k hk;rcases(H.mm k).1 hk with rfl|rfl|rfl|hg
  . exact⟨Xs _,(Xt.1 H.boxs).1⟩
  . exact⟨by omega,(Xt.1 H.boxy).1⟩
  . exact⟨by omega,(Xt.1 H.boxg).1⟩
  . have:=(H.ge k _ hg).2;exact⟨by omega,H.lt k _ hg⟩
 . rintro pre M W W' ⟨v,oG,H⟩ hw;exact⟨v,oG,H.minds hw⟩
 . intro p a' W W1 W2 l _ h _;exact h
 ·intro l pre p M W K hI hK
  gi_wp2
  exact hK _ _ (Wr.refl _ _) rfl
 ·rintro l pre p a' M W0 W ⟨v,oG,H⟩ rfl gY k3 ⟨suf,m,g0⟩;have gC:=Mk (d:=d) (x:=x) (λlo hi id e=>(X.o.tab x hx lo hi id).1 e) (n:=1048577) (λi b e=>by have:=gq.o.tk_lt e;omega) m (λk id h=>(g0 k id).1 h);have gD:(Bf d y pre).length<1000000000:=by
   have h1:(Bf d y pre).length<=pre.length:=by unfold Bf;rw[XT];exact Yj _ _
   simp at gC;omega
  have gT:=Hd gD;clear gC gD m;have hp:d.tab x p.1=some p.2:=(g0 p.1 p.2).1 (by simp);obtain⟨i,hi⟩:=Ex p.2;have gM:Aa d i=some ⟨x,p.1.1,p.1.2⟩:=(X.o.tab x hx _ _ _).1 (by rw[hi];exact hp);obtain⟨gX,gO,gH⟩:=BQ gM;rw[gO]at gH;obtain⟨N,hN⟩:=Ex (d.pool.nd i);have gL:=gq.o.below gr.o H.low;have gN:=gr.o.mono H.low.size;obtain⟨q0,E,q2,q3,q4,_⟩:=cells5 gL.blk;have cs:=cell1 H.boxs;have cy:=cell1 H.boxy;have h8:=Hd (KO o s.pb d.pool i W gL.pool gN gX);rw[<-hN]at h8 gH;rw[<-hi];have HI:=Hd hi;have HS:=Hd H;have HN:=Hd hN;have hW:=Hd gH;have h6:=Hd gM;clear H hi hN gH gM gL gN gX gO hp g0 q0 q2 q3 q4
  gi_wp2
  refine⟨trivial,(CallsIn.inRound l (aI.2 h8.o)).mono ?_⟩;rintro e Y ⟨rfl,go⟩;have A:=Cq go cs;have z:=Cq go cy;simp only[Ao];have T:w.heap.size<Y.heap.size:=Ad A;have S:w.heap.size+1<Y.heap.size:=Ad z;have lb2:w.heap.size+1+1<Y.heap.size:=X5 (Xt.1 HS.o.boxg).1 go.size;have gV:=Hd go;clear go cs cy E
  gi_wp2
  obtain⟨C,F⟩:=Ex ((Y.alloc (.cells #[Iv N.id,Iv N.v,Iv N.lo,Iv N.hi,Iv N.refs] 203)).alloc (.cells #[Iv N.id,Iv N.v,Iv N.lo,Iv N.hi,Iv N.refs,Iv 0,Iv 0,Iv 0,Iv 0] 234));rw[<-F];have n4:C.heap[Y.heap.size]?=some (.cells #[Iv N.id,Iv N.v,Iv N.lo,Iv N.hi,Iv N.refs] 203 (0,0)):=by rw[F];exact(Yt _ _ _ (by simp)).trans (Xv Y _)
  have t4:C.heap[Y.heap.size+1]?=some (.cells #[Iv N.id,Iv N.v,Iv N.lo,Iv N.hi,Iv N.refs,Iv 0,Iv 0,Iv 0,Iv 0] 234 (0,0)):=by
   rw[F];have:=Xv (Y.alloc (.cells #[Iv N.id,Iv N.v,Iv N.lo,Iv N.hi,Iv N.refs] 203)) (.cells #[Iv N.id,Iv N.v,Iv N.lo,Iv N.hi,Iv N.refs,Iv 0,Iv 0,Iv 0,Iv 0] 234);rw[X3]at this;exact this
  have gy:Hq (Wr (λ_=>False) W C):=by rw[F];exact Hd (((Wr.of_below gV.o (λ_=>False)).alloc _).alloc _)
  have hd:W.heap.size<=Y.heap.size:=gV.o.size;have gx:Bw Y C:=by rw[F];exact(Ag _ _).alloc (by simp) _
  obtain⟨b1,gQ⟩:=Ex Y.heap.size;have cs4:=(gx.cell (p:=Av w.heap.size) T).trans A;have cy4:=(gx.cell (p:=(Av (w.heap.size+1))) S).trans z;have gl:Hq (∀Z,Wr (λ_=>False) W Z->TurS d y w sb pre M Z v oG):=Hd λZ h=>HS.o.minds (h.mono λk e=>e.elim)
  have gk:Hq (∀Z,Wr (λ_=>False) W Z->A3 o Z sb d/\Ac o Z):=Hd λZ h=>⟨⟨s,gq.o.below gr.o (gl.o Z h).low⟩,gr.o.mono (gl.o Z h).low.size⟩
  have gv:okE (Aa d) N.lo/\okE (Aa d) N.hi:=by
   have e:=hW.o;have h1:=X.o.dag.okLo _ _ h6.o;have h2:=X.o.dag.okHi _ _ h6.o;have e1:p.1.1=N.lo:=by have:=Yf BN.lo e;exact this.symm
   have e2:p.1.2=N.hi:=by have:=Yf BN.hi e;exact this.symm
   dsimp only at h1 h2;rw[e1]at h1;rw[e2]at h2;exact⟨h1,h2⟩
  have hz:=Hd gv;obtain⟨⟨ll,lh⟩,g6⟩:∃c,c=cofs d N.lo y:=⟨_,rfl⟩;obtain⟨⟨hl,hh⟩,gG⟩:∃c,c=cofs d N.hi y:=⟨_,rfl⟩;have gA:=Hd (Ma (gk.o C gy.o).1 (gk.o C gy.o).2 X.o N.lo gv.1 y);rw[<-g6]at gA;have hU:=Hd g6;have h7:=Hd gG;rw[<-gQ]at n4 t4 hd⊢;clear F A z gv g6 gG gx gV gQ T S lb2;refine⟨trivial,(CallsIn.inRound l (aI.2 gA.o)).mono ?_⟩;rintro e B ⟨rfl,G⟩;have lW4:b1+1<C.heap.size:=(Xt.1 t4).1;have cs5:=Cq G cs4;have cy5:=Cq G cy4;have n5:=(G.block b1 (by omega)).trans n4;have t5:=(G.block (b1+1) lW4).trans t4;have hv:Hq (Wr (λ_=>False) W B):=Hd (gy.o.trans (Wr.of_below G (λ_=>False)) (λ_ _ e=>e) (λ_ _ e=>e));have f5:∀q,B.frozen? ⟨b1+1,q,none⟩=false:=λq=>by simp[World.frozen?,t5]
  have k5:B.cell? ⟨b1+1,5,none⟩=some (Iv 0):=by rw[Xw _ _ 5 _ _ _ t5];rfl
  have k6:B.cell? ⟨b1+1,6,none⟩=some (Iv 0):=by rw[Xw _ _ 6 _ _ _ t5];rfl
  have m3:B.cell? (Aw b1 3)=some (Iv N.hi):=by rw[Xw _ _ 3 _ _ _ n5];rfl
  have lW5:b1+1<B.heap.size:=(Xt.1 t5).1;clear G cs4 cy4 n4 t4 gA lW4
  gi_wp2
  obtain⟨L,gJ⟩:=Ex ((B.setCell ⟨b1+1,5,none⟩ (Iv (ll:Nat))).setCell ⟨b1+1,6,none⟩ (Iv (lh:Nat)));rw[<-gJ];have t6:L.heap[b1+1]?=some (.cells #[Iv N.id,Iv N.v,Iv N.lo,Iv N.hi,Iv N.refs,Iv (ll:Nat),Iv (lh:Nat),Iv 0,Iv 0] 234 (0,0)):=by
   rw[gJ];exact A2 (k:=6) (A2 (k:=5) t5 (Iv (ll:Nat))) (Iv (lh:Nat))
  have gi:Hq (Wr (λ_=>False) W L):=by rw[gJ];exact Hd ((hv.o.setCell (p:=⟨b1+1,5,none⟩) (.inr (by show W.heap.size<=b1+1;omega)) _).setCell (p:=⟨b1+1,6,none⟩) (.inr (by show W.heap.size<=b1+1;omega)) _)
  have gh:=(gl.o L gi.o);have cs6:=cell1 gh.boxs;have cy6:=cell1 gh.boxy;have gz:=Hd (Ma (gk.o L gi.o).1 (gk.o L gi.o).2 X.o N.hi hz.o.2 y);rw[<-h7.o]at gz;clear gJ cs5 cy5 n5 t5 f5 k5 k6 m3 lW5 gh;refine⟨trivial,(CallsIn.inRound l (aI.2 gz.o)).mono ?_⟩;rintro e f ⟨rfl,gP⟩;have lW6:b1+1<L.heap.size:=(Xt.1 t6).1;have t7:=(gP.block (b1+1) lW6).trans t6;have hu:Hq (Wr (λ_=>False) W f):=Hd (gi.o.trans (Wr.of_below gP (λ_=>False)) (λ_ _ e=>e) (λ_ _ e=>e));have f7:∀q,f.frozen? ⟨b1+1,q,none⟩=false:=λq=>by simp[World.frozen?,t7]
  have k5:f.cell? ⟨b1+1,5,none⟩=some (Iv (ll:Nat)):=by rw[Xw _ _ 5 _ _ _ t7];rfl
  have k6:f.cell? ⟨b1+1,6,none⟩=some (Iv (lh:Nat)):=by rw[Xw _ _ 6 _ _ _ t7];rfl
  have k7:f.cell? ⟨b1+1,7,none⟩=some (Iv 0):=by rw[Xw _ _ 7 _ _ _ t7];rfl
  have k8:f.cell? ⟨b1+1,8,none⟩=some (Iv 0):=by rw[Xw _ _ 8 _ _ _ t7];rfl
  have lW7:b1+1<f.heap.size:=(Xt.1 t7).1;clear gP cs6 cy6 t6 gz lW6;obtain⟨O,gI⟩:=Ex ((f.setCell ⟨b1+1,7,none⟩ (Iv (hl:Nat))).setCell ⟨b1+1,8,none⟩ (Iv (hh:Nat)));have t8:O.heap[b1+1]?=some (.cells #[Iv N.id,Iv N.v,Iv N.lo,Iv N.hi,Iv N.refs,Iv (ll:Nat),Iv (lh:Nat),Iv (hl:Nat),Iv (hh:Nat)] 234 (0,0)):=by
   rw[gI];exact A2 (k:=8) (A2 (k:=7) t7 (Iv (hl:Nat))) (Iv (hh:Nat))
  have J:Hq (Wr (λ_=>False) W O):=by rw[gI];exact Hd ((hu.o.setCell (p:=⟨b1+1,7,none⟩) (.inr (by show W.heap.size<=b1+1;omega)) _).setCell (p:=⟨b1+1,8,none⟩) (.inr (by show W.heap.size<=b1+1;omega)) _)
  have g2:=Hd (gl.o O J.o);have g8:=cell1 g2.o.boxg;have r0:O.cell? (Av (b1+1))=some (Iv N.id):=by rw[Xw _ _ 0 _ _ _ t8];rfl
  have r1:O.cell? ⟨b1+1,1,none⟩=some (Iv N.v):=by rw[Xw _ _ 1 _ _ _ t8];rfl
  have r2:O.cell? ⟨b1+1,2,none⟩=some (Iv N.lo):=by rw[Xw _ _ 2 _ _ _ t8];rfl
  have r3:O.cell? ⟨b1+1,3,none⟩=some (Iv N.hi):=by rw[Xw _ _ 3 _ _ _ t8];rfl
  have r4:O.cell? ⟨b1+1,4,none⟩=some (Iv N.refs):=by rw[Xw _ _ 4 _ _ _ t8];rfl
  have r5:O.cell? ⟨b1+1,5,none⟩=some (Iv (ll:Nat)):=by rw[Xw _ _ 5 _ _ _ t8];rfl
  have r6:O.cell? ⟨b1+1,6,none⟩=some (Iv (lh:Nat)):=by rw[Xw _ _ 6 _ _ _ t8];rfl
  have r7:O.cell? ⟨b1+1,7,none⟩=some (Iv (hl:Nat)):=by rw[Xw _ _ 7 _ _ _ t8];rfl
  have r8:O.cell? ⟨b1+1,8,none⟩=some (Iv (hh:Nat)):=by rw[Xw _ _ 8 _ _ _ t8];rfl
  have hR:Hq (_=O):=Hd gI.symm;have kc:Hq (b1+1<O.heap.size):=Hd (Xt.1 t8).1;clear gI t8;have Q:tnOf d y i=⟨N,ll,lh,hl,hh⟩:=by
   unfold tnOf;rw[<-HN.o,<-hU.o,<-h7.o]
  have gj:=Hd Q;clear Q
  gi_upto_region 8 with fail
  rw[hR.o];clear t7 f7 k5 k6 k7 k8 lW7
  by_cases g4:ll≠lh\/hl≠hh
  ·have gK:Hq (Cu d y p.2=true):=Hd (by rw[<-HI.o];unfold Cu;rw[gj.o];exact XQ g4);have R:((ll:Int) != lh)=true\/((ll:Int) != lh)=false:=by cases((ll:Int) != lh)<;>simp
   have n2:((ll:Int) != lh)=false->((hl:Int) != hh)=true:=λe=>by
    have k9:(ll:Int)=lh:=by simpa using e
    have h1:ll=lh:=by omega
    have h2:=g4.resolve_left (λh=>h h1);simp;omega
   rcases R with R|R
   ·clear n2
    gi_wp2_with (gi_at_builtin
                 refine Ji (wr:=O) 229 234 9 72 _ underlying229 Ml rfl (by decide) rfl _ _ rfl rfl rfl rfl rfl rfl (by simp[Value.oneCell']) g2.o.row g2.o.lt gT.o (by decide) ?_;intro g1 k1 w1 o1 gm g6 gn;have gS:=Hd gm;have gc:=Hd g6;have gU:=Hd gn;clear gm g6 gn;have g5:=(gc.o.alien (Xt.1 g2.o.boxg).1 (g2.o.no _ (by omega))).trans g2.o.boxg;have cg1:=cell1 g5;have fz:∀k,w1.frozen? ⟨w.heap.size+2,k,none⟩=false:=λk=>by simp[World.frozen?,g5]
                 clear g8 g5)
    obtain⟨M',a1,a2,a3⟩:=g2.o.add gK.o (W1:=w1) (v':=.slice (some (Av g1)) ((Bf d y pre).length+1) k1) (by
     rw[<-HI.o,gj.o,Mm];exact gS.o) gc.o gU.o (n:=W0.heap.size) (Xz gY J.o.size)
    exact⟨M',a1,Wr.trans J.o a2 (λ_ _ e=>e.elim) (λ_ _ e=>e),a3⟩
   ·have n3:=n2 R;clear n2
    gi_wp2_with (gi_at_builtin
                 refine Ji (wr:=O) 229 234 9 72 _ underlying229 Ml rfl (by decide) rfl _ _ rfl rfl rfl rfl rfl rfl (by simp[Value.oneCell']) g2.o.row g2.o.lt gT.o (by decide) ?_;intro g1 k1 w1 o1 gm g6 gn;have gS:=Hd gm;have gc:=Hd g6;have gU:=Hd gn;clear gm g6 gn;have g5:=(gc.o.alien (Xt.1 g2.o.boxg).1 (g2.o.no _ (by omega))).trans g2.o.boxg;have cg1:=cell1 g5;have fz:∀k,w1.frozen? ⟨w.heap.size+2,k,none⟩=false:=λk=>by simp[World.frozen?,g5]
                 clear g8 g5)
    obtain⟨M',a1,a2,a3⟩:=g2.o.add gK.o (W1:=w1) (v':=.slice (some (Av g1)) ((Bf d y pre).length+1) k1) (by
     rw[<-HI.o,gj.o,Mm];exact gS.o) gc.o gU.o (n:=W0.heap.size) (Xz gY J.o.size)
    exact⟨M',a1,Wr.trans J.o a2 (λ_ _ e=>e.elim) (λ_ _ e=>e),a3⟩
  ·have gK:Hq (Cu d y p.2=false):=Hd (by rw[<-HI.o];unfold Cu;rw[gj.o];exact XW g4);have R:((ll:Int) != lh)=false:=by
    have:ll=lh:=Decidable.byContradiction λh=>g4 (.inl h)
    simp[this]
   have n2:((hl:Int) != hh)=false:=by
    have:hl=hh:=Decidable.byContradiction λh=>g4 (.inr h)
    simp[this]
   clear g4
   gi_wp2
   exact⟨M,⟨v,oG,g2.o.skip gK.o⟩,J.o.mono (λ_ e=>e.elim),λk hk=>.inl hk⟩
 ·rintro xs D M W ⟨m,g0⟩ hD gR ⟨v,oG,H⟩ hM hw gw;have g9:=cell1 H.boxg;have HS:=Hd H;have ka:=Hd m;have hX:=Hd g0;have g7:=H.low;have hY:D<W.heap.size:=(Xt.1 gw).1;have hA:=Hd gw;have kb:=Hd gR;have HF:Hq (∃(v':Value) (U:List Nat),Ending.returned v=.returned v'/\U.Nodup/\(∀i,i∈U↔Turns (Aa d) x y i)/\TRow (W.putObj D (.deferred none)) w.heap.size v' (U.map (tnOf d y))/\Bw w (W.putObj D (.deferred none))):=by
   refine Hd ⟨v,(xs.filter λp=>Cu d y p.2).map Prod.snd,rfl,?_,λi=>?_,?_,?_⟩
   ·rw[ZP,YT];have h1:=m;rw[ZP,YT]at h1;refine(h1.sublist List.filter_sublist).imp_of_mem λ{a b} ha hb hJ e=>hJ ?_
    have E:=(X.o.tab x hx a.1.1 a.1.2 a.2).1 ((g0 a.1 a.2).1 ((YA.1 ha).1));have q2:=(X.o.tab x hx b.1.1 b.1.2 b.2).1 ((g0 b.1 b.2).1 ((YA.1 hb).1));rw[e,q2]at E;obtain⟨⟨a1,a2⟩,a3⟩:=a;obtain⟨⟨b1,b2⟩,b3⟩:=b;simp at E;exact Prod.ext E.1.symm E.2.symm
   ·rw[X6];constructor
    . rintro⟨q,hq,rfl⟩;obtain⟨hH,hG⟩:=YA.1 hq;have hn:=(X.o.tab x hx q.1.1 q.1.2 q.2).1 ((g0 q.1 q.2).1 hH);exact(Ju X.o hn rfl).1 hG
    . intro hT;obtain⟨b,hb,h3,_⟩:=id hT;have ht:=(X.o.tab x hx b.lo b.hi i).2 (by rw[hb,<-h3]);exact⟨((b.lo,b.hi),i),YA.2 ⟨(g0 _ _).2 ht,(Ju X.o hb h3).2 hT⟩,rfl⟩
   ·have e':((xs.filter λp=>Cu d y p.2).map Prod.snd).map (tnOf d y)=Bf d y xs:=by unfold Bf;rw[Y9];rfl
    rw[e'];have hZ:=Mk (d:=d) (x:=x) (λlo hi id e=>(X.o.tab x hx lo hi id).1 e) (n:=1048577) (λi b e=>by have:=gq.o.tk_lt e;omega) m (λk id h=>(g0 k id).1 h);have hm:(Bf d y xs).length<=1048578:=by
     have h1:(Bf d y xs).length<=xs.length:=by unfold Bf;rw[XT];exact Yj _ _
     omega
    obtain⟨ag,cpg,rfl,_⟩:=H.row.slice;refine⟨hm,ag,cpg,rfl,λk hk=>?_⟩;obtain⟨g,cp,he,gZ,_⟩:=H.row.shape (by omega);cases he;have hL:g≠D:=λe=>gR ((H.mm D).2 (.inr (.inr (.inr (e ▸ gZ)))))
    refine⟨g,rfl,by have:=(H.ge g _ gZ).2;omega,λj u hj=>?_⟩;have h9:j<9:=by have:=(XI.1 hj).1;simpa [tnV,rnV]using this
    have hf:=Ef tnV 9 (λ_=>rfl) (Bf d y xs) k j _ (Xy hk) h9;have ho:((Bf d y xs).flatMap tnV).length=(Bf d y xs).length*9:=Ch _ 9 (λ_=>rfl) _;have hc:=H.row.cell (k*9+j) (by rw[ho];omega);have gG:W.cell? (Aw g (k*9+j))=some u:=hc.trans (hf.trans hj);exact(Co gG (Yu hL))
   . exact⟨g7.os,g7.tape,g7.output,by simpa using g7.size,λq hq=>(Yu (by omega)).trans (g7.block q hq)⟩
  clear H m g0 gw hM hw gR g7;go_wp2_with fail;refine⟨by simp,.inl ⟨D,_,rfl,run_takeDeferred hA.o,?_⟩⟩;refine⟨_,YD rfl _ _ _,?_⟩;exact HF.o
structure SwV (d0:Af)(k x y:Nat):Prop where
 k1:k+1<d0.vars.length
 x:d0.vars.getD k 0=x
 y:d0.vars.getD (k+1) 0=y
section
variable {gone:Nat->Prop}
def SwV.facts (s:SwV d0 k x y)(hk:Ai d0 V0):x<d0.vars.length/\y<d0.vars.length/\levN d0 x=k/\levN d0 y=k+1/\x≠y:=by
 obtain⟨H,a2⟩:=hk.vlt k (by have:=s.k1;omega);obtain⟨c1,c2⟩:=hk.vlt (k+1) s.k1;rw[s.x]at H a2;rw[s.y]at c1 c2;exact⟨H,c1,a2,c2,by rintro rfl;omega⟩
structure CutS (d0:Af)(k x:Nat)(gone:Nat->Prop)(d:Af):Prop where
 vars:d.vars=(Bd d0 k).vars
 level:d.level=(Bd d0 k).level
 pool:d.pool=d0.pool
 counts:d.counts=d0.counts
 dead:d.dead=d0.dead
 tabO:∀v,v≠x->d.tab v=d0.tab v
 tabX:∀lo hi id,d.tab x (lo,hi)=some id↔d0.tab x (lo,hi)=some id/\¬ gone id
theorem CutS.start (d0:Af)(k x:Nat):CutS d0 k x (λ_=>False) (Bd d0 k):=⟨rfl,rfl,rfl,rfl,rfl,λ_ _=>rfl,λlo hi id=>by simp[Bd]⟩
theorem CutS.next (c:CutS d0 k x gone d)(hk:Ai d0 V0)(hx:x<d0.vars.length)(H:d0.tab x (lo,hi)=some i):CutS d0 k x (λj=>gone j\/j=i) { d with tab:=λu=>if u=x then putF (d.tab u) (lo,hi) none else d.tab u }:=by
 refine⟨c.vars,c.level,c.pool,c.counts,c.dead,λv U=>by dsimp only;rw[Xu U];exact c.tabO v U,λI g0 id=>?_⟩;dsimp only;rw[Xx rfl];unfold putF
 by_cases e:(I,g0)=(lo,hi)
 ·cases e;rw[Xx rfl,H];constructor
  . intro h;cases h
  . rintro⟨h1,h2⟩;cases h1;exact(h2 (.inr rfl)).elim
 ·rw[Xu e,c.tabX];constructor
  ·rintro⟨h1,h2⟩;refine⟨h1,λh3=>?_⟩;rcases h3 with h3|h3
   . exact h2 h3
   . subst h3;have X:=(hk.tab x hx _ _ _).1 h1;have O:=(hk.tab x hx _ _ _).1 H;rw[X]at O;cases O;exact e rfl
  . rintro⟨h1,h2⟩;exact⟨h1,λh3=>h2 (.inl h3)⟩
def CutS.has (c:CutS d0 k x gone d)(h:d0.tab x (lo,hi)=some i)(H:¬ gone i):d.tab x (lo,hi)=some i:=(c.tabX _ _ _).2 ⟨h,H⟩
theorem A7.start (c:CutS d0 k x gone d)(hk:Ai d0 V0)(hx:x<d0.vars.length)(Z:d0.dead=0)(X:∀i,Turns (Aa d0) x y i↔gone i){ps:List (Nat×Nat)}(O:BT (d0.tab x) ps Wt):A7 d0 V0 k x y Wt (Al d0) (λ_=>False) d V0:=by
 have H:Aa d=Aa d0:=by unfold Aa;rw[c.pool]
 have Y:Al d=Al d0:=by unfold Al;rw[c.pool]
 have I:Ak d=Ak d0:=by unfold Ak;rw[c.counts]
 refine⟨by rw[H];exact Bv.start hk.dag x y,c.vars,c.level,by rw[c.pool],Y,⟨by rw[H,I,c.pool];exact hk.live.cnt,by rw[H,I,c.pool,c.dead];exact hk.live.dead,by rw[H,c.counts];exact hk.live.has⟩,
  λv U g0 lo hi id=>by rw[c.tabO v g0,H];exact hk.tab v U lo hi id,λlo hi id=>by rw[c.tabX,H,hk.tab x hx,X],by rw[c.counts];exact hk.clen,λi a=>?_,?_⟩
 . obtain⟨b,hb,_⟩:=a;rw[I];exact G6 hk.live Z hb
 ·rw[c.pool];have:(Wt.filter fun κ=>(d.tab x κ).isSome)=[]:=by
   rw[List.filter_eq_nil_iff];intro κ hκ;cases e:d.tab x κ with
   | none=>simp
   | some id=>
     have h1:=((c.tabX κ.1 κ.2 id).1 e).1;have h2:=O.free κ hκ;rw[h1]at h2;cases h2
  rw[this];rfl
def A7.congr {done done':Nat->Prop}(m:A7 d0 V0 k x y Wt E done d V)(h:∀i,done i↔done' i):A7 d0 V0 k x y Wt E done' d V:=by
 have e:done=done':=funext λi=>propext (h i)
 rw[<-e];exact m
def S1 (s:SwV d0 k x y)(hk:Ai d0 V0)(hl:d0.level.length=d0.vars.length)(v:Nat):(Bd d0 k).level.getD v 0=Bu (levN d0) x y v:=by
 obtain⟨hx,O,I,H,g0⟩:=s.facts hk;unfold Bd Bu levN;dsimp only;rw[s.x,s.y];unfold levN at I H;rw[I,H];simp only[List.getD,Yb,XE]
 by_cases e1:v=x
 . subst e1;rw[Xu (Ye g0),Xx rfl,Xx (by omega),Xx rfl];rfl
 ·by_cases e2:v=y
  . subst e2;rw[Xx rfl,Xx (by omega),Xu e1,Xx rfl];rfl
  . rw[Xu (Ye e2),Xu (Ye e1),Xu e1,Xu e2]
def Mn (s:SwV d0 k x y)(i:Nat):(Bd d0 k).vars.getD i 0=if i=k then y else if i=k+1 then x else d0.vars.getD i 0:=by
 have h1:=s.k1;unfold Bd;dsimp only;rw[s.x,s.y];simp only[List.getD,Yb,XE]
 by_cases e1:i=k
 . subst e1;rw[Xu (by omega),Xx rfl,Xx (by omega),Xx rfl];rfl
 ·by_cases e2:i=k+1
  . subst e2;rw[Xx rfl,Xx h1,Xu e1,Xx rfl];rfl
  . rw[Xu (Ye e2),Xu (Ye e1),Xu e1,Xu e2]
def GB (d0:Af)(k:Nat):(Bd d0 k).vars.length=d0.vars.length:=by simp[Bd]
theorem A7.final {done:Nat->Prop}(m:A7 d0 V0 k x y Wt (Al d0) done d V)(s:SwV d0 k x y)(hk:Ai d0 V0)(hl:d0.level.length=d0.vars.length)(I:∀i,Turns (Aa d0) x y i->done i):Ai d V:=by
 obtain⟨hx,X,U,O,g2⟩:=s.facts hk;have g1:levN d=Bu (levN d0) x y:=by funext v;unfold levN;rw[m.level];exact S1 s hk hl v
 have g0:d.vars.length=d0.vars.length:=by rw[m.vars,GB]
 have g3:=m.mid.final hk.dag hx X (by omega) I;have g4:∀v,v<d0.vars.length->(v=x/\Bu (levN d0) x y v=k+1)\/(v=y/\Bu (levN d0) x y v=k)\/(v≠x/\v≠y/\Bu (levN d0) x y v=levN d0 v/\levN d0 v≠k/\levN d0 v≠k+1):=by
  intro v H
  by_cases e1:v=x
  . subst e1;exact .inl ⟨rfl,by rw[Ew,O]⟩
  ·by_cases e2:v=y
   . subst e2;exact .inr (.inl ⟨rfl,by rw[Ey _ g2,U]⟩)
   . exact .inr (.inr ⟨e1,e2,F7 _ e1 e2,λh=>e1 (hk.dag.inj v x H hx (by rw[h,U])),λh=>e2 (hk.dag.inj v y H X (by rw[h,O]))⟩)
 refine⟨by rw[g0,g1];exact g3,by rw[m.ext];exact m.live,λv H lo hi id=>?_,m.clen,by rw[g0];exact hk.small,λv H=>?_,λi hi=>?_⟩
 ·rw[g0]at H
  by_cases e:v=x
  . subst e;rw[m.tabX];refine⟨λh=>h.1,λh=>⟨h,λY=>?_⟩⟩;obtain⟨_,b,hb,g5,_⟩:=m.mid.dn id (I id Y);rw[h]at hb;cases hb;exact g2 g5
  . exact m.tabO v H e lo hi id
 ·rw[g0]at H;rw[g1,m.vars,Mn s];rcases g4 v H with ⟨rfl,e⟩|⟨rfl,e⟩|⟨_,_,e,h1,h2⟩
  . rw[e,Xu (by omega),Xx rfl]
  . rw[e,Xx rfl]
  . rw[e,Xu h1,Xu h2];exact hk.inv v H
 ·rw[g0]at hi⊢;rw[g1,m.vars,Mn s]
  by_cases e1:i=k
  . rw[Xx e1];exact⟨X,by rw[Ey _ g2,U,e1]⟩
  ·rw[Xu e1]
   by_cases e2:i=k+1
   . rw[Xx e2];exact⟨hx,by rw[Ew,O,e2]⟩
   . rw[Xu e2];obtain⟨h1,h2⟩:=hk.vlt i hi;refine⟨h1,?_⟩;rw[F7 _ (λe=>e1 (by rw[<-h2,e,U])) (λe=>e2 (by rw[<-h2,e,O]))];exact h2
structure FA (d0:Af)(V0:Nat->BF)(k:Nat)(d':Af)(V':Nat->BF):Prop where
 ok:Ai d' V'
 vars:d'.vars=(Bd d0 k).vars
 level:d'.level=(Bd d0 k).level
 room:d'.pool.room=d0.pool.room
 dead:d'.dead=0
 val:∀i,(i=0\/∃b,Aa d0 i=some b)->V' i=V0 i
 live:∀i b,Aa d0 i=some b->1<=Al d0 i->∃b',Aa d' i=some b'
 ext:∀i b',Aa d' i=some b'->Al d' i=Al d0 i
def A7.o {done:Nat->Prop}(m:A7 d0 V0 k x y Wt (Al d0) done d V)(H:Ai d V)(r:AN d d'):FA d0 V0 k d' V:=by
 refine⟨r.ok H,r.vars.trans m.vars,r.level.trans m.level,r.room.trans m.room,r.dead,m.mid.ext,λi b hb O=>?_,λi I g0=>by rw[r.ext i I g0,m.ext]⟩;obtain⟨I,g0⟩:=m.mid.has hb;refine⟨I,?_⟩;rw[r.nodes,Xx (H.live.cnt.pos_of_ext g0 (by rw[m.ext];exact O))];exact g0
end
section
variable {done:Nat->Prop}{o:Own}
structure SwF (d0:Af)(V0:Nat->BF)(k x y:Nat):Prop where
 v:SwV d0 k x y
 ok:Ai d0 V0
 lev:d0.level.length=d0.vars.length
 top:∀i,Al d0 i<=549755813888
def SwF.facts (f:SwF d0 V0 k x y):x<d0.vars.length/\y<d0.vars.length/\levN d0 x=k/\levN d0 y=k+1/\x≠y:=f.v.facts f.ok
def A7.acy (m:A7 d0 V0 k x y Wt E done d V)(f:SwF d0 V0 k x y):Acy (Aa d) (rkSw d0.vars.length (levN d0) (Aa d0) x y (Aa d)):=by
 obtain⟨hx,O,I,H,g0⟩:=f.facts;exact Sc f.ok.dag hx (by omega) m.mid
def A7.vlen (m:A7 d0 V0 k x y Wt E done d V):d.vars.length=d0.vars.length:=by rw[m.vars,GB]
def Mo (h:Chg RCnt o o' w w'):Chg Am o o' w w':=h.mono IT
def Mp (st:A3 o w sb d)(H:Ac o w)(f:SwF d0 V0 k x y)(m:A7 d0 V0 k x y Wt E done d V)(O:midE d0.vars.length (levN d0) (Aa d0) (Aa d) x y e)(Y:∀i,E i<=549755813898):
 Cl 165 #[Pt sb,Iv e] w λq w'=>q=.returned (.tuple #[])/\∃d',A3 o w' sb d'/\Ac o w'/\A7 d0 V0 k x y Wt (addE E e 1) done d' V/\Aa d'=Aa d/\d'.pool=d.pool/\Chg Am o o w w':=by
 obtain⟨s,st⟩:=st;obtain⟨hx,h,g,a,g0⟩:=f.facts;have I:=Md m.mid O;refine(IR o sb s _ (2*(d0.vars.length-levN d0 x)) w d E e ⟨st,H,m.acy f,I,m.live,λq b _=>?_,?_⟩).mono ?_
 ·have h1:=Y q;have h2:toE e q<=1:=by unfold toE;split<;>omega
  omega
 ·rcases I with h0|⟨c,X⟩
  . exact .inl h0
  . right;have:=Mf f.ok.dag hx (by omega) m.mid O X;omega
 . rintro q w' ⟨cs,j,rfl,h1,h2,h3,Z,_,U⟩;exact⟨rfl,_,⟨s,h1⟩,H.mono U.size,m.counts h2 h3 Z (Xs _),rfl,rfl,Mo U⟩
def Mq (st:A3 o w sb d)(H:Ac o w)(f:SwF d0 V0 k x y)(m:A7 d0 V0 k x y Wt E done d V){b:BN}(hb:Aa d0 i=some b)(O:b.v=x)(X:e=b.lo\/e=b.hi)(g:∀i,E i<=549755813898)(a:∀i,0<=E i-toE e i):
 Cl 150 #[Pt sb,Iv e] w λq w'=>q=.returned (.tuple #[])/\∃d',A3 o w' sb d'/\Ac o w'/\A7 d0 V0 k x y Wt (addE E e (-1)) done d' V/\Chg Am o o w w':=by
 obtain⟨s,st⟩:=st;obtain⟨hx,n,l,j,g3⟩:=f.facts;have g1:okE (Aa d0) e:=by rcases X with rfl|rfl;exact f.ok.dag.okLo _ _ hb;exact f.ok.dag.okHi _ _ hb
 have g2:levN d0 b.v<lvE d0.vars.length (levN d0) (Aa d0) e:=by rcases X with rfl|rfl;exact f.ok.dag.lvLo _ _ hb;exact f.ok.dag.lvHi _ _ hb
 have U:=ET m.mid g1;have g6:=st.pool.top;have g4:=st.pool.room;refine(IS o sb s _ (2*(d0.vars.length-levN d0 x)) w d E e ⟨st,H,m.acy f,U,m.live,λq c I=>?_,λq _ _=>a q,?_⟩).mono ?_
 . have h1:=m.live.cnt.le I;have h2:=g q;omega
 ·rcases g1 with h0|⟨r,g0⟩
  . exact .inl h0
  ·right;rw[F9 g0,O]at g2;have g5:=f.ok.dag.lt _ (f.ok.dag.var _ _ g0);rcases U with h0|⟨c,I⟩
   . rw[h0,f.ok.dag.none0]at g0;cases g0
   ·rcases Jw m.mid g0 I with ⟨_,Z,_⟩|⟨_,_,h3,_⟩
    . rw[Z]at g2;omega
    . omega
 . rintro q w' ⟨cs,p,rfl,h1,h2,h3,h,_,Y⟩;exact⟨rfl,_,⟨s,h1⟩,H.mono Y.size,m.counts h2 h3 h (Xs _),Mo Y⟩
def J0 (st:A3 o w sb d)(H:Ac o w)(hk:Ai d V):
 Cl 157 #[Pt sb] w λq w'=>q=.returned (Iv d.dead)/\∃o' d',A3 o' w' sb d'/\Ac o' w'/\AN d d'/\Chg Am o o' w w':=by
 by_cases h0:d.dead=0
 . refine(LO st h0).mono ?_;rintro q w' ⟨rfl,hb⟩;obtain⟨s,st⟩:=st;exact⟨by rw[h0];rfl,o,d,⟨s,st.below H hb⟩,H.mono hb.size,AN.none hk h0,Chg.of_below hb _ _⟩
 . exact LP st H hk h0
end
section
variable {o:Own}
structure Box (o:Own)(w:Wd)(b:Nat)(O:Obj):Prop where
 blk:w.heap[b]?=some O
 no:o b=none
def Box.chg {O:Obj}(h:Box o w b O)(H:Chg R o o' w w'):Box o' w' b O:=
 ⟨(H.alien (Xt.1 h.blk).1 h.no).trans h.blk,H.alien' (Xt.1 h.blk).1 h.no⟩
def Box.cell {b:Nat}{cs:Array Value}{T:TypeId}(h:Box o w b (.cells cs T (0,0)))(i:Nat):w.cell? (Aw b i)=cs[i]?:=Xw w b i _ _ _ h.blk
def Box.other {O:Obj}{p:Addr}(h:Box o w b O)(H:b≠p.block):Box o (w.setCell p u) b O:=⟨(Az H _).trans h.blk,h.no⟩
def Box.set {cs:Array Value}(h:Box o w b (.cells cs T (0,0)))(i:Nat)(u:Value):Box o (w.setCell (Aw b i) u) b (.cells (cs.setIfInBounds i u) T (0,0)):=
 ⟨A2 h.blk u,h.no⟩
def TRow.chg {base:Nat}(h:TRow w base v ts)(X:Chg R o o' w w')(O:0<ts.length->∀g,v.ownBlock=some g->o g=none):TRow w' base v ts:=by
 by_cases I:0<ts.length
 . exact h.keep λg _ U H=>X.alien U (O I g H)
 . obtain⟨a,c,h1,_⟩:=h.ex;exact⟨h.small,a,c,h1,λk hk=>by omega⟩
def TRow.blk {base:Nat}(h:TRow w base v ts)(H:0<ts.length):∀g,v.ownBlock=some g->base<=g/\g<w.heap.size:=by
 obtain⟨a,c,rfl,h1⟩:=h.ex;obtain⟨g0,rfl,hb,O⟩:=h1 0 H;intro g I;cases I;exact⟨hb,Ad (O 0 _ rfl)⟩
end
structure RndI (sb:Nat)(o1:Own)(w1:Wd)(base:Nat)(v:Value)(ts:List TN)(W:Wd)(o:Own)(d:Af):Prop where
 st:A3 o W sb d
 lt:Ac o W
 row:TRow W base v ts
 no:0<ts.length->∀g,v.ownBlock=some g->o g=none
 chg:Chg Am o1 o w1 W
section
variable {o:Own}{base:Nat}
def RndI.move (h:RndI sb o1 w1 base v ts W o d)(st:A3 o' W' sb d')(lt:Ac o' W')(H:Chg R o o' W W')(U:∀r,R r->Am r):RndI sb o1 w1 base v ts W' o' d':=
 ⟨st,lt,h.row.chg H h.no,λI g O=>H.alien' (h.row.blk I g O).2 (h.no I g O),h.chg.trans (H.mono U)⟩
def RndI.below (h:RndI sb o1 w1 base v ts W o d)(hb:Bw W W'):RndI sb o1 w1 base v ts W' o d:=
 h.move (R:=Am) (h.st.below h.lt hb) (h.lt.mono hb.size) (Chg.of_below hb _ _) (λ_ h=>h)
def RndI.write (h:RndI sb o1 w1 base v ts W o d)(hb:o b=none)(h1:w1.heap.size<=b)(I:∀g,0<ts.length->v.ownBlock=some g->g≠b)(i:Nat)(u:Value):RndI sb o1 w1 base v ts (W.setCell (Aw b i) u) o d:=by
 refine⟨h.st.keepR (λg r H _=>Az (by rintro rfl;rw[hb]at H;cases H) _) (λ_ _ h=>h),h.lt.mono (by simp[World.setCell]),?_,h.no,h.chg.setCell_new h1 u⟩
 by_cases O:0<ts.length
 . exact h.row.keep λg _ _ H=>Az (I g O H) _
 . obtain⟨a,c,h2,_⟩:=h.row.ex;exact⟨h.row.small,a,c,h2,λk hk=>by omega⟩
end
section
variable {done:Nat->Prop}
def S2 (E:Nat->Int)(a b lo hi:Nat):addE (addE (addE (addE (addE (addE E lo 1) hi 1) a 1) b 1) lo (-1)) hi (-1)=addE (addE E a 1) b 1:=by
 funext i;unfold addE;omega
def S3 (E:Nat->Int)(a b:Nat):addE (addE (addE (addE E a 1) b 1) a (-1)) b (-1)=E:=by
 funext i;unfold addE;omega
def S4 {n:RN}(hk:i<d.pool.at_.length)(H:d.pool.tk i=true):Aa { d with pool:=d.pool.setNd i n }=setN (Aa d) i (bnOf n):=by
 funext j;unfold Aa setN;rw[Ae.setNd_get hk H]
 by_cases e:j=i
 . rw[Xx e,Xx e];rfl
 . rw[Xu e,Xu e]
def S5 {n:RN}(hk:i<d.pool.at_.length)(H:d.pool.tk i=true)(I:(n.refs:Int)=Al d i):Al { d with pool:=d.pool.setNd i n }=Al d:=by
 funext j;have hb:Al d i=((d.pool.nd i).refs:Int):=De H;unfold Al;have h1:(d.pool.setNd i n).tk j=d.pool.tk j:=rfl;have h2:(d.pool.setNd i n).nd j=if j=i then n else d.pool.nd j:=Dw hk j
 dsimp only;rw[h1,h2]
 by_cases e:j=i
 . subst e;rw[Xx rfl,I,hb]
 . rw[Xu e]
def A7.turned {b:BN}{n:RN}(m:A7 d0 V0 k x y Wt (addE (addE (Al d0) lo 1) hi 1) done d V)(f:SwF d0 V0 k x y)(a:Turns (Aa d0) x y i)(X:¬ done i)(hb:Aa d0 i=some b)
 (O:midE d0.vars.length (levN d0) (Aa d0) (Aa d) x y lo) (U:midE d0.vars.length (levN d0) (Aa d0) (Aa d) x y hi) (c:hi%2=0) (I:lo≠hi) (hV:V0 i=iteF y (ef V hi) (ef V lo))
 (g:bnOf n=⟨y,lo,hi⟩) (H:(n.refs:Int)=Al d0 i) (hk:i<d.pool.at_.length):
 d.tab y (lo,hi)=none/\A7 d0 V0 k x y Wt (addE (addE (Al d0) b.lo 1) b.hi 1) (λj=>done j\/j=i) { d with pool:=d.pool.setNd i n,tab:=λu=>if u=y then putF (d.tab y) (lo,hi) (some i)else d.tab u } V:=by
 obtain⟨hx,Y,l,h,g0⟩:=f.facts;have g1:Aa d i=some b:=m.mid.keep i b hb X;have Z:=(BQ g1).1;refine⟨m.fresh_y f.ok.dag g0 Y a X hV,?_⟩;have h1:=m.set (p':=d.pool.setNd i n) g0 f.ok.dag Y a X hb O U c I hV (by rw[S4 hk Z,g]) (S5 hk Z (by rw[H,m.ext])) rfl rfl (by simp[Ae.setNd]);rw[S2]at h1;have e:(λu=>if u=y then putF (d.tab u) (lo,hi) (some i)else d.tab u)=(λu=>if u=y then putF (d.tab y) (lo,hi) (some i)else d.tab u):=by
  funext u;by_cases e:u=y
  . subst e;rfl
  . rw[Xu e,Xu e]
 rw[e]at h1;exact h1
end
def S6 {o:Own}{base:Nat}(h:RndI sb o1 w1 base v ts W o d)(st:Ap o W sb d s){n:RN}(Z:d.pool.tk n.id=true){U O:Obj}{b1 b2:Nat}(Y:Box o W b1 U)(X:Box o W b2 O):
 Cl 149 #[Pt s.pb,Ao n] W λe w'=>∃q,e=.returned q/\(q=Iv 0/\RndI sb o1 w1 base v ts w' o { d with pool:=d.pool.setNd n.id n }/\Ap o w' sb { d with pool:=d.pool.setNd n.id n } s/\Box o w' b1 U/\Box o w' b2 O):=by
 refine(I5 o s.pb d.pool n W st.pool h.lt Z).mono ?_;rintro e w' ⟨rfl,b,I,g0⟩;have H:=st.setPool h.lt b (I.mono (λr a=>by simp[Bm,a]));exact⟨_,rfl,rfl,h.move ⟨s,H⟩ g0 I IU,H,Y.chg I,X.chg I⟩
theorem S7 {o:Own}{base:Nat}(h:RndI sb o1 w1 base v ts W o d)(st:Ap o W sb d s)(Z:y<s.ts.length)(c:d.tab y (lo,hi)=none){U O:Obj}{b1 b2:Nat}(Y:Box o W b1 U)(X:Box o W b2 O):
 Cl 166 #[.pointer (some ⟨s.ts.getD y 0,0,none⟩),Iv lo,Iv hi,Iv id] W λe w'=>∃q,e=.returned q/\(q=Iv 0/\RndI sb o1 w1 base v ts w' o { d with tab:=λu=>if u=y then putF (d.tab y) (lo,hi) (some id)else d.tab u }/\Box o w' b1 U/\Box o w' b2 O):=by
 refine(KU o y (s.ts.getD y 0) (d.tab y) lo hi id W (st.tab y Z) h.lt c).mono ?_;rintro e w' ⟨rfl,a,H,g0⟩;have I:=st.setTab h.lt a H;exact⟨_,rfl,rfl,h.move ⟨s,I⟩ g0 H (λr b=>by simp[Am,b]),Y.chg H,X.chg H⟩
structure J1 (d0:Af)(V0:Nat->BF)(x y i:Nat)(b:BN):Prop where
 node:Aa d0 i=some b
 v:b.v=x
 lo:(d0.pool.nd i).lo=b.lo
 hi:(d0.pool.nd i).hi=b.hi
 id:(d0.pool.nd i).id=i
 val:Jx d0 V0 x y i (tnOf d0 y i).ll (tnOf d0 y i).lh (tnOf d0 y i).hl (tnOf d0 y i).hh
 ne:(tnOf d0 y i).ll≠(tnOf d0 y i).lh\/(tnOf d0 y i).hl≠(tnOf d0 y i).hh
theorem S8 {o:Own}(f:SwF d0 V0 k x y)(h:Ap o w sb d0 s)(I:Turns (Aa d0) x y i):∃b,J1 d0 V0 x y i b:=by
 obtain⟨hx,O,Y,X,g2⟩:=f.facts;obtain⟨b,hb,g0,g3⟩:=id I;obtain⟨U,g1,H⟩:=BQ hb;rw[g1]at H;have e1:(d0.pool.nd i).lo=b.lo:=by rw[<-H];rfl
 have e2:(d0.pool.nd i).hi=b.hi:=by rw[<-H];rfl
 refine⟨b,hb,g0,e1,e2,h.pool.id i U,?_,?_⟩
 . have:=Sh f.ok O (by omega) hb g0;unfold tnOf;rw[e1,e2];exact this
 . have:=(Ju f.ok hb g0).2 I;unfold Cu at this;exact YG this
structure FB (d0:Af)(V0:Nat->BF)(k x y:Nat)(Wt:List (Nat×Nat))(done:Nat->Prop)(i:Nat)(r1 r2:Nat)(d:Af)(V:Nat->BF):Prop where
 mid:A7 d0 V0 k x y Wt (Al d0) done d V
 e1:midE d0.vars.length (levN d0) (Aa d0) (Aa d) x y r1
 e2:midE d0.vars.length (levN d0) (Aa d0) (Aa d) x y r2
 reg:r2%2=0
 ne:r1≠r2
 val:V0 i=iteF y (ef V r2) (ef V r1)
def FB.of {done:Nat->Prop}{H I:Nat}{d1 d2:Af}{V1 V2:Nat->BF}{b:BN}(f:SwF d0 V0 k x y)(t:J1 d0 V0 x y i b)
 (h1:CH d0 V0 k x y Wt done d V (tnOf d0 y i).ll (tnOf d0 y i).hl H d1 V1) (h2:CH d0 V0 k x y Wt done d1 V1 (tnOf d0 y i).lh (tnOf d0 y i).hh I d2 V2):FB d0 V0 k x y Wt done i H I d2 V2:=by
 obtain⟨hx,X,Z,Y,g0⟩:=f.facts;obtain⟨k1,k2⟩:=h2.keep H h1.edge;obtain⟨U,O⟩:=Si (V:=V2) f.ok hx X g0 (by omega) t.val t.ne (k2.trans h1.val) h2.val;exact⟨h2.mid,k1,h2.edge,h2.reg t.val.reg,O,U⟩
theorem Mr {done:Nat->Prop}(m:A7 d0 V0 k x y Wt E done d V)(f:SwF d0 V0 k x y)(X:BT (d0.tab x) ps Wt)(Z:(lo,hi)∈ps)
 (I:lowE d0.vars.length (levN d0) (Aa d0) y lo) (O:lowE d0.vars.length (levN d0) (Aa d0) y hi) (H:lo≠hi) (Y:d.tab x (bkey lo hi)=none):bkey lo hi∈Wt:=by
 obtain⟨hx,l,j,i,g3⟩:=f.facts;refine X.has (lo,hi) Z H ?_
 show d0.tab x (bkey lo hi)=none
 cases e:d0.tab x (bkey lo hi)with
 | none=>rfl
 | some id=>
   exfalso;have hb:=(f.ok.tab x hx _ _ id).1 e;have low:∀{e:Nat},lowE d0.vars.length (levN d0) (Aa d0) y e->¬ isV (Aa d0) y e:=by
    rintro e ⟨_,h2⟩ ⟨c,g,g1⟩;rw[F9 g,g1]at h2;omega
   by_cases U:Turns (Aa d0) x y id
   ·obtain⟨b,g0,g4,g2⟩:=U;rw[hb]at g0;cases g0;rcases g2 with h|h
    . exact low (DT I) h
    . exact low (DT O) h
   . have h1:=(m.tabX (bkey lo hi).1 (bkey lo hi).2 id).2 ⟨m.mid.keep id _ hb (λa=>U (m.mid.dn id a).1),U⟩;rw[show((bkey lo hi).1,(bkey lo hi).2)=bkey lo hi from rfl,Y]at h1;cases h1
section
variable {F:Phi}{o:Own}
def S9 (h:A3 o w sb d):Cl 160 #[Pt sb] w (Sm (Iv d.pool.room) w):=by
 obtain⟨s,h⟩:=h;obtain⟨O,c1,c2,I,H,f0⟩:=cells5 h.blk;have HP:=Hd (PA o s.pb d.pool w h.pool);clear h
 go_enter func160,ntmps160
 go_wp2_with fail;refine HP.o.mono ?_;rintro x w' ⟨rfl,rfl⟩;go_wp2;go_ret;exact⟨rfl,rfl⟩
end
section
variable {F:Phi}{o:Own}
def SA (h:A3 o w sb d):Cl 161 #[Pt sb] w (Sm (Iv d.pool.many) w):=by
 obtain⟨s,h⟩:=h;obtain⟨O,c1,c2,I,H,f0⟩:=cells5 h.blk;have HP:=Hd (P9 o s.pb d.pool w h.pool);clear h
 go_enter func161,ntmps161
 go_wp2_with fail;refine HP.o.mono ?_;rintro x w' ⟨rfl,rfl⟩;go_wp2;go_ret;exact⟨rfl,rfl⟩
end
end Go.Proofs.YtnphndlbfeagbaaGreat
