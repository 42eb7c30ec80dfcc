/- Several texts in one file: contracts of the program's functions and what follows from them. -/
import Derived.Test.YtgmbklaolcmljaaGreatS3
import Derived.Maps.RangeRun
import Derived.Shelf.SlSortCmp.WholeK
import Derived.Shelf.SlicesG.Cmp
import Derived.Shelf.SlGeneric
import Derived.Ground.SlsfProg
import Derived.Ground.SlgcProg
import Derived.Test.YtgmbklaolcmljaaGreatProg
import Derived.Shelf.SlSortCmp.NoneTotal
import Derived.Sort.CutIn
set_option linter.unusedSimpArgs false
set_option linter.unusedVariables false
set_option linter.unusedSectionVars false
set_option linter.unnecessarySimpa false
set_option maxRecDepth 100000
set_option maxHeartbeats 8000000
namespace Go.Proofs.YtgmbklaolcmljaaGreat
open Go.Proofs.Tryz
open Go.RowKit
variable {C:Nat->Prop}{F G:BF}{K:Law}{Od:List Nat->Prop}{P:Program}{Q:Exit->Act->Wd->Prop}{V:Nat->BF}{W0 w w' w0 w1 w2 wr:Wd}{a:Act}{args:Array Value}{b bf clock gf k k' mb n room:Nat}{ev:Ev}{fs:List (Int×BF)}{kf nx:Int}{lim:Option Nat}{m m':ManD}{oG:Own}{seen:Array Nat}{v:Value}{ws ws0:List Ev}
theorem IN {o:Oper}{K:Act->Wd->Prop}{f:FuncId}{R:Value->Wd->Prop}{R2:List PanicEntry->Wd->Prop}(he:(execOp a.eval o).run P w=.ok (.enter f args) w)
 (hc:Calls P f args w fun e w'=>(∃ v,e=.returned v/\R v w')\/(∃ ch,e=.panicked ch/\R2 ch w')) (h:∀ v w',R v w'->K (a.put o.dst v) w') (h2:∀ ch w',R2 ch w'->Q (.panic ch) a w'):o.wp P a w K Q:=by
 unfold Oper.wp;simp only[he,Oper.upon];refine hc.mono fun e w' hh=>?_
 rcases hh with ⟨v,h1,h3⟩|⟨ch,h1,h3⟩
 . subst h1;exact h v w' h3
 . subst h1;exact h2 ch w' h3
abbrev C3 (bf bg bh:Nat):Nat->Prop:=fun k=>k=bf\/k=bg\/k=bh
structure B3 (bf bg bh:Nat)(kf kg kh:Int)(W:Wd):Prop where
 f:W.cell? ⟨bf,0,none⟩=some (.int .i64 kf)
 g:W.cell? ⟨bg,0,none⟩=some (.int .i64 kg)
 h:W.cell? ⟨bh,0,none⟩=some (.int .i64 kh)
theorem B3.keep {bg bh:Nat}{kg kh:Int}(W W':Wd)(h:B3 bf bg bh kf kg kh W)(hk:∀ c,C3 bf bg bh c->W'.heap[c]?=W.heap[c]?):B3 bf bg bh kf kg kh W' :=
 ⟨Co h.f (hk _ (.inl rfl)),Co h.g (hk _ (.inr (.inl rfl))),Co h.h (hk _ (.inr (.inr rfl)))⟩
def AV (F G H:BF):BF:=fun ρ=>iteB (F ρ) (G ρ) (H ρ)
def SatX (K:Law)(n:Nat)(Od:List Nat->Prop)(room:Nat)(w0:Wd)(mb:Nat)(fs:List (Int×BF))(nx:Int)(m:ManD):Prop:=∃ W o V,SatE K n Od room w0 mb fs nx W o m V
def DW (lim:Option Nat)(k:Nat)(m:ManD):Prop:=∀ M,lim=some M->m.d.pool.many<=M+k
def QF (ws0:List Ev)(lim:Option Nat)(k:Nat)(F:BF)(_:Wd)(m':ManD)(V':Nat->BF)(r:Nat):Prop:=ef V' r=F/\m'.waits <:+ ws0/\DW lim k m'
def EF (A:ManD->Prop)(k:Nat)(ws0:List Ev)(er:Int)(m m':ManD):Prop:=er=7/\A m/\m'.d.pool.many=m'.d.pool.room/\m'.d.pool.many+1<=m.d.pool.many+k/\m'.waits <:+ ws0
abbrev DX (ws0:List Ev)(m:ManD):Prop:=m.waits <:+ ws0
abbrev StL (ws0:List Ev)(lim:Option Nat)(m:ManD):Prop:=DX ws0 m/\DW lim 0 m
def EL (A:ManD->Prop)(k:Nat)(ws0:List Ev)(lim:Option Nat)(er:Int)(m m':ManD):Prop:=lim=none/\EF A k ws0 er m m'
def DY (ws0:List Ev)(lim:Option Nat)(k room:Nat):Prop:=∀ M,lim=some M->ws0=[]/\M+k<=room
theorem IP (h:DY ws0 lim k room)(h1:DW lim 0 m)(h2:m'.d.pool.room+1<=m.d.pool.many+k)(h3:m'.d.pool.room=room):lim=none:=by
 cases lim with
 | none=>rfl
 | some M =>
   have:=(h M rfl).2;have:=h1 M rfl;omega
theorem IQ (h:DY ws0 lim k room)(h1:ev::ws <:+ ws0):DW lim k' m:=fun M e=>by
 have:=(h M e).1;subst this;simp at h1
abbrev XW:=@Nat.pow_pos
abbrev Xr:=@List.mem_cons_self
theorem Rc (hK:A5 K)(ws0:List Ev)(lim:Option Nat)(hlim:DY ws0 lim (2^n-1) room)(hhap:∀ ev∈ws0,HapG K n Od room w0 mb fs nx ev)(bf bg bh:Nat){kg kh:Int}{H:BF}(hf:(kf,F)∈fs)(hg:(kg,G)∈fs)(hh:(kh,H)∈fs) :
 OpG K n Od room w0 mb fs nx (C3 bf bg bh) (B3 bf bg bh kf kg kh) (StL ws0 lim) 118 #[.pointer (some ⟨bf,0,none⟩),.pointer (some ⟨bg,0,none⟩),.pointer (some ⟨bh,0,none⟩)] (QF ws0 lim (2^n-1) (AV F G H)) (EL (SatX K n Od room w0 mb fs nx) (2^n-1) ws0 lim):=by
 intro o W m V xb g0 hB hC g1 g7 hnx;obtain⟨f,hf,ef1⟩:=g0.find hf;obtain⟨g,hg,ef2⟩:=g0.find hg;obtain⟨h,hh,ef3⟩:=g0.find hh;have hk:=g0.ok;have g8:=g0.lt;have gc:=hk.store;obtain⟨s,hm⟩:=g0.is;have g2:Bw W W.drew:=Ap W 1;have g6:=hm.below g8 g2;have ga:=g8.mono g2.size;have g5:AH o W.drew xb mb:=⟨(g2.cell (p:=⟨xb,0,none⟩) (Ag g7.cell)).trans g7.cell,g7.own⟩;have df:=(g2.cell (p:=⟨bf,0,none⟩) (Ag hB.f)).trans hB.f;have dg:=(g2.cell (p:=⟨bg,0,none⟩) (Ag hB.g)).trans hB.g;have dh:=(g2.cell (p:=⟨bh,0,none⟩) (Ag hB.h)).trans hB.h;have of:=(hC bf (.inl rfl)).2;have og:=(hC bg (.inr (.inl rfl))).2;have oh:=(hC bh (.inr (.inr rfl))).2;have gi:=Hd (DV ⟨s,g6⟩ g5 hk.handles.nodup hf);have gh:=Hd (DV ⟨s,g6⟩ g5 hk.handles.nodup hg);have gg:=Hd (DV ⟨s,g6⟩ g5 hk.handles.nodup hh);have gd:=Hd (KT hK n o W.drew xb mb m V f g h ⟨s,g6⟩ ga g5 gc (hk.handles.ok _ hf) (hk.handles.ok _ hg) (hk.handles.ok _ hh) (by rw[g0.vars];omega));obtain⟨P,hP⟩:∃ P:Ending->Wd->Prop,P=fun e w'=>∃ (o':Own) (m':ManD) (V':Nat->BF),Bu (C3 bf bg bh) K o W mb m V o' w' m' V'/\B3 bf bg bh kf kg kh w' /\
  ((∃ r:Nat,e=.returned (.int .i64 r)/\okE (Aa m'.d) r/\QF ws0 lim (2^n-1) (AV F G H) w' m' V' r) \/
   (∃ er:Int,e=Au er false ev0/\er≠0/\m'.waits=m.waits/\StL ws0 lim m'/\EL (SatX K n Od room w0 mb fs nx) (2^n-1) ws0 lim er m m') \/
   (∃ ev,e=Au 0 true ev/\m.waits=ev::m'.waits/\StE K n Od room w0 mb fs nx (StL ws0 lim) m'/\HapG K n Od room w0 mb fs nx ev)):=⟨_,rfl⟩
 have ge:Hq (∀ e w',KR K n o W.drew mb m V f g h e w'->(∃ v,e=.returned v/\(w'.cell? ⟨bf,0,none⟩=some (.int .i64 kf)/\w'.cell? ⟨bg,0,none⟩=some (.int .i64 kg)/\w'.cell? ⟨bh,0,none⟩=some (.int .i64 kh))/\P (.returned v) w')\/(∃ ch,e=.panicked ch/\P (.panicked ch) w')):=by
  refine Hd ?_;subst hP;rintro e w' ⟨o',m',V',st,g9⟩;have g3:B3 bf bg bh kf kg kh w':=⟨st.chg.cell df of,st.chg.cell dg og,st.chg.cell dh oh⟩;have stx:Bu (C3 bf bg bh) K o W mb m V o' w' m' V':=Step.toX (K:=K) ⟨st.is,st.lt,(Chg.of_below g2 _ o).trans st.chg,st.ok,st.ext,st.hs,st.next⟩ _;have hp2:0<2^n:=XW (by omega);rcases g9 with ⟨r,rfl,h1,h2,h3⟩|⟨rfl,h2,h3,h4⟩|⟨ev,rfl,h1⟩
  . refine .inl ⟨_,rfl,⟨g3.f,g3.g,g3.h⟩,o',m',V',stx,g3,.inl ⟨r,rfl,h1.okR,?_,by rw[h2];exact g1.1,fun M e=>by have:=g1.2 M e;omega⟩⟩;have e1:=(st.ext.ef (hk.handles.ok _ hf)).trans ef1;have e2:=(st.ext.ef (hk.handles.ok _ hg)).trans ef2;have e3:=(st.ext.ef (hk.handles.ok _ hh)).trans ef3;dsimp only at e1 e2 e3;funext ρ;rw[h1.val ρ,e1,e2,e3];rfl
  . have gb:lim=none:=IP hlim g1.2 (by rw[<- h3];omega) (by rw[st.ext.room];exact g0.room);exact .inr ⟨_,rfl,o',m',V',stx,g3,.inr (.inl ⟨7,rfl,by omega,h2,⟨by unfold DX;rw[h2];exact g1.1,by subst gb;exact fun M e=>by cases e⟩,gb,rfl,⟨_,_,_,g0⟩,h3,by omega,by rw[h2];exact g1.1⟩)⟩
  ·refine .inr ⟨_,rfl,o',m',V',stx,g3,.inr (.inr ⟨ev,rfl,h1,?_,?_⟩)⟩
   all_goals
    have g4:m.waits <:+ ws0:=g1.1;rw[h1] at g4
    first|exact fun _ _ _ _ _ e _ _=>⟨by unfold DX;rw[e];exact(List.suffix_cons ev m'.waits).trans g4,IQ hlim g4⟩|exact hhap ev (g4.subset (Xr ..))
 rw[<- hP];clear hm gc hk g7 hB hC g1 hnx hhap hlim hK g8 hf hg hh of og oh g6 ga g5 g2 g0 hP ef1 ef2 ef3
 go_enter func118,ntmps118
 go_upto_region 1 with fail;refine IL (fun W:Wd=>W.cell? ⟨bf,0,none⟩=some (.int .i64 kf)/\W.cell? ⟨bg,0,none⟩=some (.int .i64 kg)/\W.cell? ⟨bh,0,none⟩=some (.int .i64 kh)) (fun ch w'=>P (.panicked ch) w') 12 (fun c a w hd h=>⟨hd,h⟩) (by kernel_rfl) ⟨df,dg,dh⟩ ?_;refine BT 0 rfl rfl (by kernel_rfl) ?_;apply Exists.intro;refine⟨fun w' hw=>?_,?_⟩
 . obtain⟨q1,q2,q3⟩:=hw;go_simp;rfl
 simp only[Ac];refine BT 1 rfl rfl (by kernel_rfl) ?_;apply Exists.intro;refine⟨fun w' hw=>?_,?_⟩
 . obtain⟨q1,q2,q3⟩:=hw;go_simp;rfl
 simp only[Ac];refine BT 2 rfl rfl (by kernel_rfl) ?_;apply Exists.intro;refine⟨fun w' hw=>?_,?_⟩
 . obtain⟨q1,q2,q3⟩:=hw;go_simp;rfl
 simp only[Ac];refine BT 4 rfl rfl (by kernel_rfl) ?_;apply Exists.intro;refine⟨fun w' hw=>?_,?_⟩
 . obtain⟨q1,q2,q3⟩:=hw;go_simp;rfl
 simp only[Ac];refine BT 5 rfl rfl (by kernel_rfl) ?_;apply Exists.intro;refine⟨fun w' hw=>?_,?_⟩
 . obtain⟨q1,q2,q3⟩:=hw;go_simp;rfl
 simp only[Ac];refine BT 7 rfl rfl (by kernel_rfl) ?_;apply Exists.intro;refine⟨fun w' hw=>?_,?_⟩
 . obtain⟨q1,q2,q3⟩:=hw;go_simp;rfl
 simp only[Ac];refine BT 8 rfl rfl (by kernel_rfl) ?_;apply Exists.intro;refine⟨fun w' hw=>?_,?_⟩
 . obtain⟨q1,q2,q3⟩:=hw;go_simp;rfl
 simp only[Ac];refine CS [3] (by kernel_rfl) (fun i hi hS o ho=>?_);simp only[Cr] at hi;subst hi;simp only[Ce] at ho;subst ho;refine⟨rfl,?_⟩;refine CQ (v:=.int .i64 (f:Nat)) (R:=fun w'=>W.drew=w') (by go_simp) gi.o ?_;rintro w' rfl;refine⟨⟨df,dg,dh⟩,?_⟩;simp only[Ac];refine CS [6] (by kernel_rfl) (fun i hi hS o ho=>?_);simp only[Cr] at hi;subst hi;simp only[Ce] at ho;subst ho;refine⟨rfl,?_⟩;refine CQ (v:=.int .i64 (g:Nat)) (R:=fun w'=>W.drew=w') (by go_simp) gh.o ?_;rintro w' rfl;refine⟨⟨df,dg,dh⟩,?_⟩;simp only[Ac];refine CS [9] (by kernel_rfl) (fun i hi hS o ho=>?_);simp only[Cr] at hi;subst hi;simp only[Ce] at ho;subst ho;refine⟨rfl,?_⟩;refine CQ (v:=.int .i64 (h:Nat)) (R:=fun w'=>W.drew=w') (by go_simp) gg.o ?_;rintro w' rfl;refine⟨⟨df,dg,dh⟩,?_⟩;simp only[Ac];refine CS [10] (by kernel_rfl) (fun i hi hS o ho=>?_);simp only[Cr] at hi;subst hi;simp only[Ce] at ho;subst ho;refine⟨rfl,?_⟩;refine IN (R:=fun v w'=>(w'.cell? ⟨bf,0,none⟩=some (.int .i64 kf)/\w'.cell? ⟨bg,0,none⟩=some (.int .i64 kg)/\w'.cell? ⟨bh,0,none⟩=some (.int .i64 kh))/\P (.returned v) w') (R2:=fun ch w'=>P (.panicked ch) w') (by go_simp) (gd.o.mono ge.o) ?_ ?_
 ·rintro v w' ⟨hS,g1⟩;refine⟨hS,?_⟩;have gf:=Hd g1;clear g1;simp only[Ac];refine BT 11 rfl rfl (by kernel_rfl) ?_;apply Exists.intro;refine⟨fun w' hw=>?_,?_⟩
  . go_simp;rfl
  simp only[Ac];refine IM (by kernel_rfl) ?_;clear hS df dg dh;go_wp2_with fail;exact gf.o
 . intro ch w' g1;exact⟨rfl,g1⟩
abbrev C1 (b:Nat):Nat->Prop:=fun k=>k=b
structure B1 (b:Nat)(v:Int)(W:Wd):Prop where
 c:W.cell? ⟨b,0,none⟩=some (.int .i64 v)
theorem B1.keep {v:Int}(W W':Wd)(h:B1 b v W)(hk:∀ c,C1 b c->W'.heap[c]?=W.heap[c]?):B1 b v W':=⟨Co h.c (hk _ rfl)⟩
theorem Re (hK:A5 K)(ws0:List Ev)(lim:Option Nat)(hlim:DY ws0 lim 1 room)(hhap:∀ ev∈ws0,HapG K n Od room w0 mb fs nx ev)(v vb:Nat)(hv:v<n) :
 OpG K n Od room w0 mb fs nx (C1 vb) (B1 vb v) (StL ws0 lim) 116 #[.pointer (some ⟨vb,0,none⟩)] (QF ws0 lim 1 (varF v)) (EL (SatX K n Od room w0 mb fs nx) 1 ws0 lim):=by
 intro o W m V xb g1 hB hC g0 hx hnx;have hk:=g1.ok;have g9:=g1.lt;have g2:=hk.store;have o0:okE (Aa m.d) 0:=.inl rfl;have o1:okE (Aa m.d) 1:=.inl rfl;have g4:lvE m.d.vars.length (levN m.d) (Aa m.d) 0=m.d.vars.length:=Fc g2 rfl;have gc:lvE m.d.vars.length (levN m.d) (Aa m.d) 1=m.d.vars.length:=Fc g2 rfl;have g8:v<m.d.vars.length:=by rw[g1.vars];exact hv
 have gb:=g2.dag.lt v g8;have ge:=Hd (I5 hK g1.is g9 hx g2 v 1 0 o1 o0);have cvb:=hB.c;have ob:=(hC vb rfl).2;obtain⟨P,hP⟩:∃ P:Ending->Wd->Prop,P=fun e w'=>∃ (o':Own) (m':ManD) (V':Nat->BF),Bu (C1 vb) K o W mb m V o' w' m' V'/\B1 vb v w' /\
  ((∃ r:Nat,e=.returned (.int .i64 r)/\okE (Aa m'.d) r/\QF ws0 lim 1 (varF v) w' m' V' r) \/
   (∃ er:Int,e=Au er false ev0/\er≠0/\m'.waits=m.waits/\StL ws0 lim m'/\EL (SatX K n Od room w0 mb fs nx) 1 ws0 lim er m m') \/
   (∃ ev,e=Au 0 true ev/\m.waits=ev::m'.waits/\StE K n Od room w0 mb fs nx (StL ws0 lim) m'/\HapG K n Od room w0 mb fs nx ev)):=⟨_,rfl⟩
 have ga:Hq (∀ e w',Ga K o W mb m V v 1 0 e w'->(∃ r:Nat,e=.returned (.int .i64 r)/\P (.returned (.int .i64 r)) w')\/(∃ er evt ev,e=Au er evt ev/\P (Au er evt ev) w')):=by
  refine Hd ?_;subst hP;rintro e w' ⟨o',m',V',st,g7⟩;have g5:B1 vb v w':=⟨st.chg.cell cvb ob⟩;have stx:Bu (C1 vb) K o W mb m V o' w' m' V':=st.toX _;rcases g7 with ⟨ev,h1,_,_,_,_,rfl⟩|⟨h1,_,_,(⟨er,gd,hd,_,rfl⟩|⟨_,_,r,rfl,h2,h3,_,h5⟩)⟩
  ·refine .inr ⟨0,true,ev,rfl,o',m',V',stx,g5,.inr (.inr ⟨ev,rfl,h1,?_,?_⟩)⟩
   all_goals
    have g3:m.waits <:+ ws0:=g0.1;rw[h1] at g3
    first|exact fun _ _ _ _ _ e _ _=>⟨by unfold DX;rw[e];exact(List.suffix_cons ev m'.waits).trans g3,IQ hlim g3⟩|exact hhap ev (g3.subset (Xr ..))
  ·refine .inr ⟨er,false,ev0,rfl,o',m',V',stx,g5,.inr (.inl ?_)⟩;rcases gd with ⟨_,h⟩|⟨_,_,_,h⟩|⟨rfl,h⟩
   . exact(h ⟨by omega,by omega⟩).elim
   . simp only[Y5] at h;omega
   . have g4:lim=none:=IP (m':=m') hlim g0.2 (by rw[hd];omega) (by rw[st.ext.room];exact g1.room);exact⟨7,rfl,by omega,h1,⟨by unfold DX;rw[h1];exact g0.1,by subst g4;exact fun M e=>by cases e⟩,g4,rfl,⟨_,_,_,g1⟩,by rw[hd];exact h,by rw[hd];omega,by rw[h1];exact g0.1⟩
  . refine .inl ⟨r,rfl,o',m',V',stx,g5,.inl ⟨r,rfl,h2,?_,by rw[h1];exact g0.1,fun M e=>by have:=g0.2 M e;omega⟩⟩;rw[h3];funext ρ;have a0:=DS g2.dag.one ρ;have a1:=DT g2.dag.one ρ;simp only[iteF,varF,Y5,a0,a1];cases ρ v<;>rfl
 rw[<- hP];clear g2 o0 o1 g4 gc gb g8 hk hx hC hK hv g9 hB hnx g0 hP ob g1 hlim
 go_enter func116,ntmps116
 go_wp2_with fail;refine ge.o.mono ?_;intro e w' hp;rcases ga.o e w' hp with ⟨r,rfl,g0⟩|⟨er,evt,ev,rfl,g0⟩
 . have g6:=Hd g0;clear hp g0;go_wp2_with fail;exact g6.o
 . have g6:=Hd g0;clear hp g0;unfold Au;go_wp2_with fail;exact⟨rfl,g6.o⟩
def D8 (K:Law)(n:Nat)(Od:List Nat->Prop)(room:Nat)(w0:Wd)(mb:Nat)(fs:List (Int×BF))(nx:Int)(ws0:List Ev)(lim:Option Nat)(k:Nat)(F:BF)(o:Own)(w:Wd)(x:Ending)(w':Wd):Prop :=
 ∃ o' m' V',ChgX NoB o o' w w'/\m'.waits <:+ ws0/\((x=.returned (.tuple #[.int .i64 nx,.int .i64 0])/\DW lim k m'/\SatE K n Od room w0 mb (fs++[(nx,F)]) (nx+1) w' o' m' V') \/
  (x=.returned (.tuple #[.int .i64 0,.int .i64 7])/\lim=none/\SatE K n Od room w0 mb fs nx w' o' m' V'/\∃ m0,SatX K n Od room w0 mb fs nx m0/\m0.d.dead=0/\room+1<=m0.d.pool.many+k))
theorem StL.coll (m:ManD)(d:Ae)(h:StL ws0 lim m)(r:AC m.d d):StL ws0 lim { m with d:=d }:=⟨h.1,fun M e=>by have:=h.2 M e;have:=r.many;show d.pool.many<=M+0;omega⟩
theorem Ll {o:Own}{B:Wd->Prop}{x:Ending}(hb:Bw w w1)(hC:∀ c,C c->w.heap.size<=c)
 (h:II K n Od room w0 mb fs nx C B (QF ws0 lim k F) (EL (SatX K n Od room w0 mb fs nx) k ws0 lim) o w1 x w'):D8 K n Od room w0 mb fs nx ws0 lim k F o w x w':=by
 obtain⟨o',m',V',_,hc,g0⟩:=h;have g1:ChgX NoB o o' w w':=(ChgX.of_below hb o NoB).trans hc (fun k hk e=>by have:=hC k e;omega);rcases g0 with ⟨r,m1,rfl,hs,⟨q1,q2,q4⟩,_,_,_,_,q5,q3,_⟩|⟨er,m0,_,rfl,hs,⟨g3,rfl,g2,h1,h2,h3⟩,h7⟩
 . exact⟨o',m',V',g1,by rw[q3];exact q2,.inl ⟨rfl,fun M e=>by rw[q5];exact q4 M e,by rw[<- q1];exact hs⟩⟩
 . refine⟨o',m',V',g1,h3,.inr ⟨rfl,g3,hs,m0,g2,h7 rfl,?_⟩⟩;have:=hs.room;omega
theorem Rf (hK:A5 K){o:Own}(h:SatE K n Od room w0 mb fs nx w o m V)(ws0:List Ev)(hws:m.waits <:+ ws0)(lim:Option Nat)(hlim:DY ws0 lim (2^n-1) room)(hl0:DW lim 0 m)(hhap:∀ ev∈ws0,HapG K n Od room w0 mb fs nx ev)(hn:nx<1099511627776)
 {kf kg kh:Int} {F G H:BF} (hf:(kf,F)∈fs) (hg:(kg,G)∈fs) (hh:(kh,H)∈fs) :
 Calls prog 59 #[Pt mb,.int .i64 kf,.int .i64 kg,.int .i64 kh] w (D8 K n Od room w0 mb fs nx ws0 lim (2^n-1) (AV F G H) o w):=by
 have g1:∀ (fn:Fn) (first cap:Array Value) (w:Wd),(Instr.makeFunc fn first cap).run prog w=.ok (.func fn first cap) w:=fun _ _ _ _=>rfl
 obtain⟨hb,cf,cg,ch⟩:=QA kf kg kh w;have hw0:=h.chg.size;have hz:(box3 kf kg kh w).heap.size=w.heap.size+3:=by simp[box3]
 have g0:Hq (Calls prog 115 #[Pt mb,.func (.func 118) #[] #[Pt w.heap.size,Pt (w.heap.size+1),Pt (w.heap.size+1+1)]] (box3 kf kg kh w) (D8 K n Od room w0 mb fs nx ws0 lim (2^n-1) (AV F G H) o w)):=by
  refine Hd ?_;refine(IJ hK B3.keep (fun _ _ _ _ _ h _=>h) StL.coll ?_ Q9 (Rc hK ws0 lim hlim hhap w.heap.size (w.heap.size+1) (w.heap.size+1+1) hf hg hh) (h.below hb) ⟨cf,cg,ch⟩ ?_ ⟨hws,hl0⟩ hn).mono fun x w' hp=>Ll hb ?_ hp
  . rintro c (rfl|rfl|rfl)<;>omega
  . rintro c (rfl|rfl|rfl)<;>exact⟨by omega,h.lt.none (by omega)⟩
  . rintro c (rfl|rfl|rfl)<;>omega
 have HW:Hq (_=box3 kf kg kh w):=Hd (show ((w.alloc (.cells #[.int .i64 kf] 3)).alloc (.cells #[.int .i64 kg] 3)).alloc (.cells #[.int .i64 kh] 3)=box3 kf kg kh w from rfl);clear h hK hws hhap hn hf hg hh hb cf cg ch hw0 hz hlim hl0;obtain⟨P,hP⟩:=Ex (D8 K n Od room w0 mb fs nx ws0 lim (2^n-1) (AV F G H) o w);rw[<- hP] at g0 ⊢;have HT:Hq (∀ x w',P x w'->∃ a b,x=.returned (.tuple #[.int .i64 a,.int .i64 b])):=by
  refine Hd ?_;subst hP;rintro x w' ⟨_,_,_,_,_,(⟨rfl,_⟩|⟨rfl,_⟩)⟩
  . exact⟨_,_,rfl⟩
  . exact⟨_,_,rfl⟩
 clear hP
 delta Pt;go_enter func59,ntmps59
 go_wp2_with fail;rw[HW.o];refine g0.o.mono ?_;intro x w' hd;obtain⟨a,b,rfl⟩:=HT.o x w' hd;have HD:=Hd hd;clear hd;go_wp2_with fail;exact HD.o
theorem Lm (hK:A5 K){o:Own}(h:SatE K n Od room w0 mb fs nx w o m V)(ws0:List Ev)(hws:m.waits <:+ ws0)(lim:Option Nat)(hlim:DY ws0 lim 1 room)(hl0:DW lim 0 m)(hhap:∀ ev∈ws0,HapG K n Od room w0 mb fs nx ev)(hn:nx<1099511627776)
 (v:Nat) (hv:v<n) :
 Calls prog 58 #[Pt mb,.int .i64 v] w (D8 K n Od room w0 mb fs nx ws0 lim 1 (varF v) o w):=by
 have gb:∀ (fn:Fn) (first cap:Array Value) (w:Wd),(Instr.makeFunc fn first cap).run prog w=.ok (.func fn first cap) w:=fun _ _ _ _=>rfl
 obtain⟨w1,g0⟩:=Ex (w.alloc (.cells #[.int .i64 (v:Nat)] 3));have g1:Bw w w1:=by rw[g0];exact Af w _
 have g5:w1.heap[w.heap.size]?=some (.cells #[.int .i64 (v:Nat)] 3 (0,0)):=by rw[g0];exact WN w _
 have cvb:w1.cell? ⟨w.heap.size,0,none⟩=some (.int .i64 (v:Nat)):=cell1 g5;have g8:w1.heap.size=w.heap.size+1:=by rw[g0];simp
 have hw0:=h.chg.size;obtain⟨s,g6⟩:=h.is;have g3:=g6.below h.lt g1;obtain⟨c0,c1,c2,c3,c4,c5,f0⟩:=cells6 g3.blk;obtain⟨ss,g2⟩:=g3.store;have g7:Cy m.d v=(levN m.d v:Nat):=KQ (by rw[g2.len,h.vars];exact hv);have g9:Hq (∀ n,Calls prog 114 #[Pt s.sb,.int .i64 (v:Nat)] (w1.drewN n) fun x w'=>x=.returned (.int .i64 (levN m.d v:Nat))/\w1.drewN n=w'):=by
  refine Hd fun n=>?_
  have:=I3 (g2.below (h.lt.mono g1.size) (Ap w1 n)) v (by rw[g2.len];have:=h.ok.store.small;omega);rw[g7] at this;exact this
 obtain⟨P,hP⟩:=Ex (D8 K n Od room w0 mb fs nx ws0 lim 1 (varF v) o w);have ga:Hq (∀ q,Calls prog 115 #[Pt mb,.func (.func 116) #[] #[Pt w.heap.size]] (w1.drewN q) P):=by
  refine Hd fun q=>?_
  rw[hP];have g4:Bw w (w1.drewN q):=g1.trans ((Ap w1 q).mono g1.size);refine(IJ hK B1.keep (fun _ _ _ _ _ h _=>h) StL.coll ?_ Q7 (Re hK ws0 lim hlim hhap v w.heap.size hv) (h.below g4) ⟨cvb⟩ ?_ ⟨hws,hl0⟩ hn).mono fun x w' hp=>Ll g4 ?_ hp
  . rintro c rfl;omega
  . rintro c rfl;exact⟨by have:=g4.size;show w.heap.size<w1.heap.size;omega,h.lt.none (by omega)⟩
  . rintro c rfl;omega
 have HT:Hq (∀ x w',P x w'->∃ a b,x=.returned (.tuple #[.int .i64 a,.int .i64 b])):=by
  refine Hd ?_;rw[hP];rintro x w' ⟨_,_,_,_,_,(⟨rfl,_⟩|⟨rfl,_⟩)⟩
  . exact⟨_,_,rfl⟩
  . exact⟨_,_,rfl⟩
 rw[<- hP];have HW:Hq (w.alloc (.cells #[.int .i64 (v:Nat)] 3)=w1):=Hd g0.symm;clear g3 g2 g7 g6 g1 g5 g0 hK hn hv hws hhap h hw0 g8 hP hlim hl0
 delta Pt;go_enter func58,ntmps58
 go_upto_region 3 with fail;rw[HW.o]
 go_quiet (with_reducible exact Cx (g9.o _))
 go_wp2_with fail;refine(ga.o _).mono ?_;intro x w' hd;obtain⟨a,b,rfl⟩:=HT.o x w' hd;have HD:=Hd hd;clear hd;go_wp2_with fail;exact HD.o
open Go.RowKit Go.Shelf
section
variable {F:Fence}{α:Type}
def Ln (F:Fence)(n d:Nat)(P:Program)(g:Nat)(lb:Array Value)(encs:α->Array Value)(n₀:Nat)(Bx:Nat->Prop)(Good:List α->Prop)(w:Wd):Prop :=
 ∀ (l:Nat) (J:List α->(Nat->Prop)->Wd->Prop) (M:Nat->Prop) (W:Wd),Gc n₀ J->Minds n₀ J->Wr (fun k=>n₀<=k/\¬ Bx k) w W->(∀ k,Bx k->¬ M k) ->
  (∀ pre x M W1,J pre M W1->(∃ suf,Good (pre++x::suf))->YieldAt F (n-1-d) P l (encs x) W1 fun e W' =>
   e=.returned (.bool true)/\∃ M',J (pre++[x]) M' W'/\Wr M W1 W'/\∀ k,M' k->M k\/W1.heap.size<=k) ->
  J [] M W ->
  CallsIn F n P g (#[.func (.yield l) #[] #[]]++lb) W fun e W'=>(∃ v,e=.returned v)/\∃ xs M',Good xs/\J xs M' W'/\Wr (fun k=>n₀<=k) W W'/\∀ k,M' k->M k\/W.heap.size<=k
theorem Rg {g:Operand}{ps:Array Tmp}{assign body:Code}(hro:F.round=none)(h1:1<=n){lb:Array Value}(hg:a.eval g=.func (.func gf) #[] lb)
 (hFg:F.fn gf) (eg:∀ args w,(callFunc gf args).run P w=.ok (.enter gf args) w) {encs:α->Array Value} {n₀:Nat} {Bx:Nat->Prop} {Good:List α->Prop} {d:Nat} (hseq:Ln F (n-1) d P gf lb encs n₀ Bx Good w) (hn0:n₀<=w.heap.size)
 (hBx:∀ k,Bx k->k<w.heap.size) (hps:∀ x,(encs x).size=ps.size) (I:List α->(Nat->Prop)->Wd->Prop) (hOw:Gc n₀ I) (hMi:Minds n₀ I) (M0:Nat->Prop) (hM0:∀ k,Bx k->¬ M0 k) (h0:I [] M0 w)
 (Ax:α->Act->Wd->Wd->Prop) (hAx:∀ x a' W W1 W2 l,l<W.heap.size->Ax x a' W W1->Wr (· = l) W1 W2->Ax x a' W W2)
 (hassign:∀ (l:Nat) (pre:List α) (x:α) (M:Nat->Prop) (W:Wd) (K:Act->Wd->Prop),I pre M W->(∀ a' W',Wr (fun _=>False) W W'->Ax x a' W W'->K a' W') ->
  assign.wpIn (F.inRound l) (n-1-1-d) P (Exit.then K (fun _ _ _=>False)) { tmps:=(ps.zip (encs x)).foldl (fun t (p,v)=>t.setIfInBounds p v) a.tmps,defers:=[] } W)
 (hbody:∀ (l:Nat) (pre:List α) (x:α) (a':Act) (M:Nat->Prop) (W0 W:Wd),I pre M W->Ax x a' W0 W->W0.heap.size<=W.heap.size->w.heap.size<=W0.heap.size->(∃ suf,Good (pre++x::suf))->body.wpIn (F.inRound l) (n-1-1-d) P
  (fun e _ W'=>match e with|.normal=>∃ M',I (pre++[x]) M' W'/\Wr (fun k=>M k\/W0.heap.size<=k) W W'/\(∀ k,M' k->M k\/W0.heap.size<=k)|_=>False) a' W)
 (hdone:∀ (xs:List α) (D:Nat) (M:Nat->Prop) (W:Wd),Good xs->w.heap.size<=D->¬ M D->I xs M W->(∀ k,M k->M0 k\/w.heap.size<=k)->Wr (fun k=>n₀<=k) w W->W.heap[D]?=some (.deferred (some []))->Q .normal { a with defers:={ target:=.collected D,args:=#[] }::a.defers } W) :
 (Code.rangeFunc g ps assign body).wpIn F n P Q a w:=by
 refine wpIn_rangeFunc ?_;intro fn gn;rw[hro]
 let rec0:LoopState->Loop:=fun st=>{ state:=st,pending:=none,fn,tmps:=a.tmps,params:=ps,assign,body,defers:=w.heap.size }
 obtain⟨W1,g1⟩:=Ex ((w.alloc (.deferred (some []))).alloc (.loop (rec0 .ready)));have gs:W1.heap[w.heap.size+1]?=some (.loop (rec0 .ready)):=by
  rw[g1];have:=World.alloc_heap_new (w.alloc (.deferred (some []))) (.loop (rec0 .ready))
  rwa [WV] at this
 have gu:W1.heap[w.heap.size]?=some (.deferred (some [])):=by
  rw[g1];exact(XE _ _ _ (by simp)).trans (World.alloc_heap_new w _)
 have g5:∀ N:Nat->Prop,Wr N w W1:=fun N=>by rw[g1];exact((Wr.refl N w).alloc _).alloc _
 have g2:=hOw [] M0 w h0;have gt:I [] M0 W1:=hMi _ _ _ _ h0 (g5 _)
 refine⟨w.heap.size+1,[{ target:=.collected w.heap.size,args:=#[] }],W1,{ target:=.fn (.func gf) lb,args:=#[.func (.yield (w.heap.size+1)) #[] #[]] },W1,gf,
  #[.func (.yield (w.heap.size+1)) #[] #[]]++lb,W1,?_,?_,?_,?_,fun _=>h1,?_⟩
 . rw[g1];exact run_enterLoop_outer _ _ _ _ _
 . simp only[resolve,hg];simp[go_sem]
 . intro f' gc;simp[Target.leads] at gc;subst gc;exact hFg
 . simp[invoke,go_sem,eg]
 refine(hseq (w.heap.size+1)
  (fun pre N W=>∃ M,I pre M W/\(∀ k,N k↔(M k\/k=w.heap.size+1\/k=w.heap.size))/\¬ M (w.heap.size+1)/\¬ M w.heap.size/\(∀ k,M k->M0 k\/w.heap.size<=k) /\
   W.heap[w.heap.size+1]?=some (.loop (rec0 .ready))/\W.heap[w.heap.size]?=some (.deferred (some [])))
  (fun k=>M0 k\/k=w.heap.size+1\/k=w.heap.size) W1 ?_ ?_ (g5 _) ?_ ?_ ?_).mono ?_
 ·rintro pre N W ⟨M,hi,hN,_,_,_,hl,hd⟩ k hk;rcases(hN k).1 hk with hk|hk|hk
  . exact hOw _ _ _ hi k hk
  . subst hk;exact⟨by omega,(WL.1 hl).1⟩
  . subst hk;exact⟨hn0,(WL.1 hd).1⟩
 ·rintro pre N W W' ⟨M,hi,hN,h2,h3,h4,hl,hd⟩ hw;refine⟨M,hMi _ _ _ _ hi ?_,hN,h2,h3,h4,?_,?_⟩
  . exact⟨hw.os,hw.tape,hw.output,hw.size,fun k hk hn=>hw.keep k hk (fun⟨a,b⟩=>hn ⟨a,fun e=>b ((hN k).2 (.inl e))⟩)⟩
  . exact(hw.keep _ (WL.1 hl).1 (fun⟨_,b⟩=>b ((hN _).2 (.inr (.inl rfl))))).trans hl
  . exact(hw.keep _ (WL.1 hd).1 (fun⟨_,b⟩=>b ((hN _).2 (.inr (.inr rfl))))).trans hd
 ·intro k hk hm;have:=hBx k hk;rcases hm with hm|hm|hm
  . exact hM0 k hk hm
  . omega
  . omega
 ·rintro pre x N W ⟨M,hi,hN,h2,h3,h4,hl,hd⟩ gd;have ga:w.heap.size+1<W.heap.size:=(WL.1 hl).1;have hy:=run_yield (P:=P) (args:=encs x) hl (hps x);refine⟨fn,_,assign,body,hy,roundIn_of_wpIn gn (hassign _ pre x M W _ hi ?_)⟩;intro a' Wa g0 gr;have gj:=(g0.keep _ ga (fun h=>h)).trans hl;have gp:=(g0.keep _ (by omega) (fun h=>h)).trans hd;have g6:w.heap.size+1<Wa.heap.size:=by have:=g0.size;omega
  refine⟨_,run_beginRound gj rfl,?_⟩;have gl:I pre M Wa:=hMi _ _ _ _ hi (g0.mono (fun _ h=>h.elim));have g8:Wr (· = w.heap.size+1) Wa (Wa.putObj (w.heap.size+1) (.loop { rec0 .ready with state:=.busy })):=(Wr.refl (· = w.heap.size+1) Wa).putObj (l:=w.heap.size+1) (.inl rfl) _;have gk:I pre M (Wa.putObj (w.heap.size+1) (.loop { rec0 .ready with state:=.busy })):=hMi _ _ _ _ gl (g8.mono (fun k e=>by have e':k=w.heap.size+1:=e;subst e';exact⟨by omega,h2⟩));have gi:(Wa.putObj (w.heap.size+1) (.loop { rec0 .ready with state:=.busy })).heap[w.heap.size+1]?=some (.loop { rec0 .ready with state:=.busy }):=Zj g6;have go:(Wa.putObj (w.heap.size+1) (.loop { rec0 .ready with state:=.busy })).heap[w.heap.size]?=some (.deferred (some [])):=(XF (by omega)).trans gp;refine wpIn_mono (hbody _ pre x a' M W _ gk (hAx _ _ _ _ _ _ ga gr g8) (by simp;exact g0.size) (by omega) gd) ?_;intro e a3 W3 hp;cases e with
  | normal =>
    obtain⟨M',gm,g4,g3⟩:=hp;have gb:=(g4.keep _ (by simp;exact g6) (fun e=>by rcases e with e|e;exact h2 e;omega)).trans gi;have gq:=(g4.keep _ (by simp;omega) (fun e=>by rcases e with e|e;exact h3 e;omega)).trans go;have ge:=(WL.1 gb).1;have g9:¬ M' (w.heap.size+1):=fun e=>by rcases g3 _ e with h|h;exact h2 h;omega
    have gh:¬ M' w.heap.size:=fun e=>by rcases g3 _ e with h|h;exact h3 h;omega
    refine⟨_,_,run_endRound (P:=P) none gb,rfl,fun k=>M' k\/k=w.heap.size+1\/k=w.heap.size,⟨M',?_,fun k=>Iff.rfl,g9,gh,?_,Zj ge,(XF (by omega)).trans gq⟩,?_,?_⟩
    . exact hMi _ _ _ _ gm ((Wr.refl _ _).putObj (.inl ⟨by omega,g9⟩) _)
    ·intro k hk;rcases g3 k hk with h|h
     . exact h4 k h
     . right;omega
    ·refine((((g0.mono (N:=N) (fun _ h=>h.elim)).putObj (l:=w.heap.size+1) (.inl ((hN _).2 (.inr (.inl rfl)))) _).trans (N:=N) g4 (fun k _ h=>h) (fun k hk h=>?_)).putObj (l:=w.heap.size+1) (.inl ((hN _).2 (.inr (.inl rfl)))) _);rcases h with h|h
     . exact(hN k).2 (.inl h)
     . omega
    ·rintro k (hk|hk)
     ·rcases g3 k hk with h|h
      . exact .inl ((hN k).2 (.inl h))
      . exact .inr h
     . exact .inl ((hN k).2 (.inr hk))
  | ret=>exact hp.elim
  | exit id=>exact hp.elim
  | goto t=>exact hp.elim
  | panic ch=>exact hp.elim
  | outgrown=>exact hp.elim
 . exact⟨M0,gt,fun k=>Iff.rfl,fun e=>by have:=(g2 _ e).2;omega,fun e=>by have:=(g2 _ e).2;omega,fun k h=>.inl h,gs,gu⟩
 ·rintro e W2 ⟨⟨v,rfl⟩,xs,N,g7,⟨M,hi,hN,h2,h3,h4,hl,hd⟩,gg,_⟩;refine⟨none,_,run_endLoop (P:=P) hl (by simp[rec0]),hdone xs _ M _ g7 (WM _) h3 ?_ h4 ?_ ((XF (by omega)).trans hd)⟩
  . exact hMi _ _ _ _ hi ((Wr.refl _ _).putObj (.inl ⟨by omega,h2⟩) _)
  . exact((g5 (fun k=>n₀<=k)).trans gg (fun _ _ h=>h) (fun _ _ h=>h)).putObj (.inl (by omega)) _
end
open Go.ChangeMaps (setBlock)
def AL (q:Nat×Nat):List Value:=[.int .i64 q.1,.int .i64 q.2]
abbrev Yh:=@List.pairwise_map
theorem Lo {α β:Type}{f:α->β}{l:List α}(h:(l.map f).Nodup):l.Nodup:=(Yh.1 h).imp fun hne e=>hne (X3 f e)
def IR:Value->Nat
 | .int _ n=>n.toNat
 | _=>0
def unE:Value->Nat×Nat
 | .agg cs=>(IR (cs.getD 0 undef),IR (cs.getD 1 undef))
 | _=>(0,0)
theorem Rh (q:Nat×Nat):unE (encE q)=q:=by simp[unE,encE,IR]
structure CB (es:Array MapEntry)(clock:Nat)(seen:Array Nat)(ks:List (Nat×Nat))(sl:List MapEntry):Prop where
 sub:∀ e∈sl,e∈es.toList
 born:sl.map (·.born)=seen.toList
 nodup:(sl.map (·.born)).Nodup
 keys:sl.map (·.key)=ks.map encE
theorem CB.start (es:Array MapEntry)(clock:Nat):CB es clock #[] [] []:=⟨fun _ h=>(by cases h),rfl,List.nodup_nil,rfl⟩
theorem CB.next {es:Array MapEntry}{ks:List (Nat×Nat)}{sl:List MapEntry}(h:CB es clock seen ks sl){e:MapEntry}(he:e∈(leftOf es seen).toList){q:Nat×Nat}(hq:e.key=encE q):CB es clock (seen.push e.born) (ks++[q]) (sl++[e]):=by
 obtain⟨h1,h2⟩:=mem_left he;refine⟨fun x hx=>?_,by simp[h.born],?_,by simp[h.keys,hq]⟩
 ·rcases Xa.1 hx with hx|hx
  . exact h.sub x hx
  . simp at hx;subst hx;exact h1
 ·rw[Xl,X5];refine⟨h.nodup,by simp,fun a ha b hb=>?_⟩;simp at hb;subst hb;rintro rfl;rw[h.born] at ha;have:seen.contains e.born=true:=by simpa using ha
  rw[this] at h2;cases h2
theorem CB.all {es:Array MapEntry}{ks:List (Nat×Nat)}{sl:List MapEntry}(h:CB es clock seen ks sl)(hn:(es.toList.map (·.born)).Nodup)(h0:(leftOf es seen).size=0):sl.Perm es.toList:=by
 have g0:=all_seen es seen h0;refine(List.perm_ext_iff_of_nodup (Lo h.nodup) (Lo hn)).2 fun e=>⟨h.sub e,fun he=>?_⟩
 have h1:=g0 e he;have h2:e.born∈sl.map (·.born):=by rw[h.born];simpa using h1
 obtain⟨x,hx,e1⟩:=WW.1 h2;have:x=e:=born_inj hn (h.sub x hx) he e1;rw[<- this];exact hx
abbrev Y7:=@List.map_map
theorem CB.keysOf {w:Wd}{b:Nat}{l:List ((Nat×Nat)×Value)}{es:Array MapEntry}{ks:List (Nat×Nat)}{sl:List MapEntry}(h:CB es clock seen ks sl)(hn:(es.toList.map (·.born)).Nodup)(h0:(leftOf es seen).size=0)
 (hl:es.toList.map (fun e=>(e.key,e.val))=l.map (fun p=>(encE p.1,p.2))):ks.Perm (l.map Prod.fst):=by
 have h1:(ks.map encE).Perm ((l.map Prod.fst).map encE):=by
  rw[<- h.keys];have h2:=(h.all hn h0).map (fun e:MapEntry=>e.key);refine h2.trans ?_;have h3:=X3 (List.map Prod.fst) hl;simp only[Y7] at h3;have e1:(es.toList.map fun e:MapEntry=>e.key)=(l.map Prod.fst).map encE:=by
   rw[Y7];exact h3
  rw[e1]
 have h2:=h1.map unE;simpa [Y7,Function.comp_def,Rh] using h2
theorem Ri:(prog.info? 257).map (fun i=>(i.zero,i.size,i.bytes))=some (some (.agg #[.int .i64 0,.int .i64 0]),2,16):=by kernel_rfl
structure KeyS (W0:Wd)(mb r clock:Nat)(es:Array MapEntry)(seen:Array Nat)(ks:List (Nat×Nat))(sl:List MapEntry)(v:Value)(oG:Own)(wr:Wd):Prop where
 low:Bw W0 wr
 it:wr.heap[r]?=some (.mapIter (some mb) clock seen clock)
 came:CB es clock seen ks sl
 row:RowR oG wr .slots 257 2 v ks.length (ks.flatMap AL)
 lt:Ab oG wr
 ge:∀ k q,oG k=some q->q=.slots/\W0.heap.size<=k
 no:oG r=none
 cnt:ks.length+(leftOf es seen).size<=es.size
theorem KeyS.next {W0:Wd}{mb r clock:Nat}{es:Array MapEntry}{seen:Array Nat}{ks:List (Nat×Nat)}{sl:List MapEntry}{v v':Value}{oG o1:Own}{wr w1 w2 w3 w4:Wd}(h:KeyS W0 mb r clock es seen ks sl v oG wr)(hr0:W0.heap.size<=r){e:MapEntry}(he:e∈(leftOf es seen).toList){q:Nat×Nat}(hq:e.key=encE q)
 (hw1:w1=wr\/w1=wr.drew) (hw2:w2=setBlock w1 r (.mapIter (some mb) clock (seen.push e.born) clock)) (hb3:Bw w2 w3)
 (hr:RowR o1 w4 .slots 257 2 v' (ks.length+1) (ks.flatMap AL++AL q)) (hc:Chg (· = .slots) oG o1 w3 w4) (hl:Ab o1 w4) :
 KeyS W0 mb r clock es (seen.push e.born) (ks++[q]) (sl++[e]) v' o1 w4:=by
 have g0:r<wr.heap.size:=(WL.1 h.it).1;have z2:w2.heap.size=wr.heap.size:=by rw[hw2];rcases hw1 with rfl|rfl<;>simp[setBlock]
 have i2:w2.heap[r]?=some (.mapIter (some mb) clock (seen.push e.born) clock):=by rw[hw2];rcases hw1 with rfl|rfl<;>simp[setBlock,g0]
 have k2:∀ g,g≠r->w2.heap[g]?=wr.heap[g]?:=fun g hg=>by
  rw[hw2];rcases hw1 with rfl|rfl<;>simp[setBlock,YJ,X1 hg]<;>rfl
 have b2:Bw W0 w2:=h.low.trans ⟨by rw[hw2];rcases hw1 with rfl|rfl<;>rfl,by rw[hw2];rcases hw1 with rfl|rfl<;>rfl,by rw[hw2];rcases hw1 with rfl|rfl<;>rfl,by omega,fun g hg=>k2 g (by omega)⟩;have nn:∀ g,g<W0.heap.size->oG g=none:=fun g hg=>by
  cases eo:oG g with
  | none=>rfl
  | some r=>have:=(h.ge g r eo).2;omega
 have s0:=h.low.size;have b3:=b2.trans (hb3.mono (by omega));refine⟨b3.trans ⟨hc.os,hc.tape,hc.output,hc.size,fun g hg=>hc.alien (by have:=b3.size;omega) (nn g hg)⟩,?_,h.came.next he hq,by simpa using hr,hl,fun g q hg=>?_,hc.alien' (by have:=hb3.size;omega) h.no,by have h1:=left_shrinks es seen e he;have h2:=h.cnt;simp;omega⟩
 . rw[hc.alien (by have:=hb3.size;omega) h.no,hb3.block r (by omega)];exact i2
 ·by_cases eo:o1 g=oG g
  . rw[eo] at hg;exact h.ge g q hg
  ·obtain⟨a1,p,a2,a3⟩:=hc.new g eo;rw[hg] at a2;cases a2
   have:=hb3.size;exact⟨a3,by omega⟩
theorem KeyS.row3 {r:Nat}{es:Array MapEntry}{ks:List (Nat×Nat)}{sl:List MapEntry}{w3:Wd}(h:KeyS W0 mb r clock es seen ks sl v oG wr){x:Obj}(hw1:w1=wr\/w1=wr.drew)(hw2:w2=setBlock w1 r x)(hb3:Bw w2 w3) :
 RowR oG w3 .slots 257 2 v ks.length (ks.flatMap AL)/\Ab oG w3:=by
 have z2:w2.heap.size=wr.heap.size:=by rw[hw2];rcases hw1 with rfl|rfl<;>simp[setBlock]
 have k2:∀ g,g≠r->w2.heap[g]?=wr.heap[g]?:=fun g hg=>by
  rw[hw2];rcases hw1 with rfl|rfl<;>simp[setBlock,YJ,X1 hg]<;>rfl
 refine⟨h.row.keep (fun g hg=>?_) (fun _ h=>h),h.lt.mono (by have:=hb3.size;omega)⟩;have h1:=h.lt g _ hg;rw[hb3.block g (by omega)];exact k2 g (by rintro rfl;rw[h.no] at hg;cases hg)
end Go.Proofs.YtgmbklaolcmljaaGreat

namespace Go.Proofs
open Go.Proofs.Tryz
open Go.Shelf
def Tryz.sortKeys_ren:Go.Shelf.Ren:=⟨fun|6=>212|15=>219|14=>218|28=>230|29=>231|20=>222|21=>223|22=>224|23=>225|24=>226|25=>227|26=>228|27=>229|46=>232|47=>233|48=>234|49=>235|50=>236|57=>237|n=>n,fun|22=>283|24=>257|25=>295|3=>3|39=>135|0=>0|53=>131|55=>49|4=>4|46=>301|45=>300|50=>33|5=>5|9=>9|66=>308|70=>312|76=>314|77=>59|n=>n,fun|n=>n⟩
theorem Tryz.sortKeys:Go.Proofs.SlLaysF0.n6 prog Tryz.sortKeys_ren:={
 mixed:=by kernel_rfl
 f6:=⟨Tryz.f212.name,by decide,func212.trans (congrArg some (by kernel_rfl))⟩
 f14:=⟨Tryz.f218.name,by decide,func218.trans (congrArg some (by kernel_rfl))⟩
 f15:=func219.trans (congrArg some (by kernel_rfl))
 f20:=⟨Tryz.f222.name,by decide,func222.trans (congrArg some (by kernel_rfl))⟩
 f21:=⟨Tryz.f223.name,by decide,func223.trans (congrArg some (by kernel_rfl))⟩
 f22:=⟨Tryz.f224.name,by decide,func224.trans (congrArg some (by kernel_rfl))⟩
 f23:=⟨Tryz.f225.name,by decide,func225.trans (congrArg some (by kernel_rfl))⟩
 f24:=⟨Tryz.f226.name,by decide,func226.trans (congrArg some (by kernel_rfl))⟩
 f25:=⟨Tryz.f227.name,by decide,func227.trans (congrArg some (by kernel_rfl))⟩
 f26:=⟨Tryz.f228.name,by decide,func228.trans (congrArg some (by kernel_rfl))⟩
 f27:=⟨Tryz.f229.name,by decide,func229.trans (congrArg some (by kernel_rfl))⟩
 f28:=func230.trans (congrArg some (by kernel_rfl))
 f29:=func231.trans (congrArg some (by kernel_rfl))
 f46:=⟨Tryz.f232.name,by decide,func232.trans (congrArg some (by kernel_rfl))⟩
 f47:=func233.trans (congrArg some (by kernel_rfl))
 f48:=func234.trans (congrArg some (by kernel_rfl))
 f49:=⟨Tryz.f235.name,by decide,func235.trans (congrArg some (by kernel_rfl))⟩
 f50:=⟨Tryz.f236.name,by decide,func236.trans (congrArg some (by kernel_rfl))⟩
 f57:=⟨Tryz.f237.name,by decide,func237.trans (congrArg some (by kernel_rfl))⟩
 t0:=underlying0
 a0:=Tryz.isAgg0
 z0:=Tryz.sizeOf0
 v0:=zeroValue0
 t3:=underlying3
 a3:=Tryz.isAgg3
 z3:=Tryz.sizeOf3
 v3:=zeroValue3
 t4:=underlying4
 a4:=Tryz.isAgg4
 z4:=Tryz.sizeOf4
 v4:=zeroValue4
 t5:=underlying5
 a5:=Tryz.isAgg5
 z5:=Tryz.sizeOf5
 v5:=zeroValue5
 t9:=underlying9
 a9:=Tryz.isAgg9
 z9:=Tryz.sizeOf9
 v9:=zeroValue9
 t22:=underlying283
 a22:=Tryz.isAgg283
 z22:=Tryz.sizeOf283
 v22:=zeroValue283
 t25:=underlying295
 a25:=Tryz.isAgg295
 z25:=Tryz.sizeOf295
 v25:=zeroValue295
 t39:=underlying135
 a39:=Tryz.isAgg135
 z39:=Tryz.sizeOf135
 v39:=zeroValue135
 t45:=underlying300
 a45:=Tryz.isAgg300
 z45:=Tryz.sizeOf300
 v45:=zeroValue300
 t46:=underlying301
 a46:=Tryz.isAgg301
 z46:=Tryz.sizeOf301
 v46:=zeroValue301
 t50:=underlying33
 a50:=Tryz.isAgg33
 z50:=Tryz.sizeOf33
 v50:=zeroValue33
 t53:=underlying131
 a53:=Tryz.isAgg131
 z53:=Tryz.sizeOf131
 v53:=zeroValue131
 t55:=underlying49
 a55:=Tryz.isAgg49
 z55:=Tryz.sizeOf49
 v55:=zeroValue49
 t66:=underlying308
 a66:=Tryz.isAgg308
 z66:=Tryz.sizeOf308
 v66:=zeroValue308
 t70:=underlying312
 a70:=Tryz.isAgg312
 z70:=Tryz.sizeOf312
 v70:=zeroValue312
 t76:=underlying314
 a76:=Tryz.isAgg314
 z76:=Tryz.sizeOf314
 v76:=zeroValue314
 t77:=underlying59
 a77:=Tryz.isAgg59
 z77:=Tryz.sizeOf59
 v77:=zeroValue59 }
def Tryz.cmpInt_ren:Go.Shelf.Ren:=⟨fun|5=>215|7=>220|n=>n,fun|22=>3|3=>3|4=>4|n=>n,fun|n=>n⟩
theorem Tryz.cmpInt:Go.Proofs.SlLaysC2.n5 prog Tryz.cmpInt_ren:={
 mixed:=by kernel_rfl
 f5:=⟨Tryz.f215.name,by decide,func215.trans (congrArg some (by kernel_rfl))⟩
 f7:=⟨Tryz.f220.name,by decide,func220.trans (congrArg some (by kernel_rfl))⟩
 t3:=underlying3
 a3:=Tryz.isAgg3
 z3:=Tryz.sizeOf3
 v3:=zeroValue3
 t4:=underlying4
 a4:=Tryz.isAgg4
 z4:=Tryz.sizeOf4
 v4:=zeroValue4
 t22:=underlying3
 a22:=Tryz.isAgg3
 z22:=Tryz.sizeOf3
 v22:=zeroValue3 }
def Tryz.cmpEdge_ren:Go.Shelf.Ren:=⟨fun|5=>216|7=>221|n=>n,fun|22=>113|3=>3|4=>4|n=>n,fun|n=>n⟩
theorem Tryz.cmpEdge:Go.Proofs.SlLaysC2.n5 prog Tryz.cmpEdge_ren:={
 mixed:=by kernel_rfl
 f5:=⟨Tryz.f216.name,by decide,func216.trans (congrArg some (by kernel_rfl))⟩
 f7:=⟨Tryz.f221.name,by decide,func221.trans (congrArg some (by kernel_rfl))⟩
 t3:=underlying3
 a3:=Tryz.isAgg3
 z3:=Tryz.sizeOf3
 v3:=zeroValue3
 t4:=underlying4
 a4:=Tryz.isAgg4
 z4:=Tryz.sizeOf4
 v4:=zeroValue4
 t22:=underlying113
 a22:=Tryz.isAgg113
 z22:=Tryz.sizeOf113
 v22:=zeroValue113 }
end Go.Proofs

namespace Go.Proofs.YtgmbklaolcmljaaGreat
open Go.Proofs.Tryz
open Go.RowKit Go.Shelf Go.Lib Go.Sort
variable {E:Nat->Int}{M:Nat->Prop}{N:Nat->Option BN}{P:Program}{Q:Exit->Act->Wd->Prop}{R:Role->Prop}{T:TypeId}{V V0:Nat->BF}{W W' W1 w w' w0 w1 w2 wr wx:Wd}{Wt ps:List (Nat×Nat)}{a:Act}{b cap e g hi i id j k lo mb n n₀ sb x y:Nat}{d d' d0:Ae}{lm:List ((Nat×Nat)×Value)}{m:ManD}{o' o1 oG:Own}{s:B9}{u v v':Value}{zs:List Int}
def orI:List Int->Int
 | []=>0
 | z::zs=>if z=0 then orI zs else z
theorem Rj (hk:k<zs.length):orI (zs.drop k)=if at0 zs k=0 then orI (zs.drop (k+1)) else at0 zs k:=by
 rw[AI hk,X2 hk];rfl
theorem Rk (a:Option Addr)(c:Nat)(zs:List Int)(w:Wd)(hz:An w a zs)(hl:zs.length<=1000000) :
 Calls prog 214 #[.slice a zs.length c] w fun x w'=>x=.returned (.int .i64 (orI zs))/\w'=w:=by
 have HZ:=Hd hz;clear hz
 go_enter func214,ntmps214
 go_wp2_with fail
 go_loopw [8] (fun s8 wr=>∃ k:Nat,k<=zs.length/\s8=.int .i64 k/\w=wr/\orI zs=orI (zs.drop k)) (fun s8 _=>zs.length-(intOf s8).toNat)
 case atStart=>exact⟨0,WX _,rfl,rfl,rfl⟩
 case round =>
  obtain⟨k,hk,rfl,rfl,ho⟩:=hrel
  by_cases g0:k<zs.length
  ·obtain⟨b,off,ha,hc⟩:=HZ.o.cells k g0;subst ha;have g2:(k:Int)<zs.length:=by omega
   have hs:=Rj g0
   by_cases h0:at0 zs k=0
   ·rw[WR h0] at hs;rw[h0] at hc;have HO:=Hd (ho.trans hs);clear ho hs h0;go_wp2_with fail;go_roundw
    case rel=>exact⟨k+1,by omega,by go_num,trivial,HO.o⟩
    case measure=>simp[intOf];omega
   ·rw[WO h0] at hs;have HO:=Hd (ho.trans hs);have g1:(at0 zs k == (0:Int))=false:=by simpa using h0
    clear ho hs h0
    generalize at0 zs k=z at hc g1 HO
    go_wp2_with fail;go_ret;exact⟨by rw[HO.o];rfl,rfl⟩
  ·obtain rfl:k=zs.length:=by omega
   have HO:Hq (orI zs=0):=by
    refine Hd ?_
    show _=_
    rw[ho];simp[orI]
   clear ho;go_wp2_with fail;go_ret;exact⟨by rw[HO.o];rfl,rfl⟩
def cfK (f:Nat×Nat->Option Nat)(x y:Nat×Nat):Int:=orI [compareInt ((f x).getD 0:Nat) ((f y).getD 0:Nat),compareInt x.1 y.1,compareInt x.2 y.2]
theorem ltK (f:Nat×Nat->Option Nat)(x y:Nat×Nat):ltOf (cfK f) x y=decide ((f x).getD 0<(f y).getD 0\/(f x).getD 0=(f y).getD 0/\(x.1<y.1\/x.1=y.1/\x.2<y.2)):=by
 unfold ltOf cfK
 generalize (f x).getD 0=a
 generalize (f y).getD 0=b
 obtain⟨x1,x2⟩:=x;obtain⟨y1,y2⟩:=y;have hc:∀ p q:Nat,compareInt (p:Int) (q:Int)=if p<q then -1 else if p=q then 0 else 1:=fun p q=>by
  unfold compareInt
  by_cases h1:p<q
  . rw[WR (by omega),WR h1]
  ·by_cases h2:p=q
   . rw[WO (by omega),WO (by omega),WO h1,WR h2]
   . rw[WO (by omega),WR (by omega),WO h1,WO h2]
 simp only[hc,orI]
 by_cases h1:a<b
 . simp[h1]
 ·by_cases h2:a=b
  ·subst h2
   by_cases h3:x1<y1
   . simp[h3]
   ·by_cases h4:x1=y1
    ·subst h4
     by_cases h5:x2<y2
     . simp[h5]
     ·by_cases h6:x2=y2
      . subst h6;simp
      . simp[h5,h6]
    . simp[h3,h4]
  . simp[h1,h2]
theorem swoK (f:Nat×Nat->Option Nat):SWO (ltOf (cfK f)) where
 irrefl x:=by rw[ltK];simp
 trans x y z h1 h2:=by rw[ltK] at *;simp at *;omega
 ntrans x y z h1 h2:=by rw[ltK] at *;simp at *;omega
theorem Rl (f:Nat×Nat->Option Nat)(x y:Nat×Nat)(Bx t mb:Nat)(W:Wd)(cB:W.cell? ⟨Bx,0,none⟩=some (.pointer (some ⟨t,0,none⟩)))(cT:W.cell? ⟨t,0,none⟩=some (.map (some mb)))
 (hlk:∀ W' k,Bw W W'->(Instr.lookup 232 (.map (some mb)) (.agg #[.int .i64 (k:Nat×Nat).1,.int .i64 k.2]) false).run prog W'=.ok (.int .i64 ((f k).getD 0:Nat)) W') :
 Calls prog 213 #[.agg #[.int .i64 x.1,.int .i64 x.2],.agg #[.int .i64 y.1,.int .i64 y.2],Pt Bx] W fun e w'=>e=.returned (.int .i64 (cfK f x y))/\∃ q os',w'=grow (W.drewN q) os':=by
 obtain⟨W1,g2⟩:=Ex ((W.alloc (.cells #[.int .i64 x.1,.int .i64 x.2] 257)).alloc (.cells #[.int .i64 y.1,.int .i64 y.2] 257));have g0:Bw W W1:=by rw[g2];exact(Af _ _).alloc (by simp) _
 have g5:W1.heap[W.heap.size]?=some (.cells #[.int .i64 x.1,.int .i64 x.2] 257 (0,0)):=by rw[g2];exact(XE _ _ _ (by simp)).trans (WN W _)
 have g4:W1.heap[W.heap.size+1]?=some (.cells #[.int .i64 y.1,.int .i64 y.2] 257 (0,0)):=by
  rw[g2];have:=WN (W.alloc (.cells #[.int .i64 x.1,.int .i64 x.2] 257)) (.cells #[.int .i64 y.1,.int .i64 y.2] 257)
  rwa [WV] at this
 obtain⟨x0,x1,_⟩:=cells2 g5;obtain⟨y0,y1,_⟩:=cells2 g4;have b1:=Cq g0 cB;have t1:=Cq g0 cT;obtain⟨i,hi⟩:=Ex (compareInt ((f x).getD 0:Nat) ((f y).getD 0:Nat):Int);obtain⟨j,hj⟩:=Ex (compareInt x.1 y.1:Int);obtain⟨k,hk⟩:=Ex (compareInt x.2 y.2:Int);have g6:cfK f x y=orI [i,j,k]:=by unfold cfK;rw[hi,hj,hk]
 obtain⟨W2,g3⟩:=Ex (W1.drew.alloc (.cells #[.int .i64 i,.int .i64 j,.int .i64 k] 3));have g1:Bw W1 W2:=by rw[g3];exact(Ap W1 1).alloc (WM _) _
 have lx0:=hlk W1.drew x (g0.trans ((Ap W1 1).mono g0.size));have ly0:=hlk W1.drew y (g0.trans ((Ap W1 1).mono g0.size));have lx2:=hlk W2 x (g0.trans (g1.mono g0.size));have ly2:=hlk W2 y (g0.trans (g1.mono g0.size));have x02:=Cq g1 x0;have x12:=Cq g1 x1;have y02:=Cq g1 y0;have y12:=Cq g1 y1;have b2:=Cq g1 b1;have t2:=Cq g1 t1;have HI:=Hd (fun w=>AnyG.cmp_Compare_int Tryz.cmpInt ((f x).getD 0:Nat) ((f y).getD 0:Nat) w);have HJ:=Hd (fun w=>AnyG.cmp_Compare_int Tryz.cmpEdge x.1 y.1 w);have HK:=Hd (fun w=>AnyG.cmp_Compare_int Tryz.cmpEdge x.2 y.2 w)
 have g8:Hq (Calls prog 214 #[.slice (some ⟨W1.drew.heap.size,0,none⟩) 3 3] W2 fun e w'=>e=.returned (.int .i64 (orI [i,j,k]))/\w'=W2):=Hd (Rk _ 3 [i,j,k] W2 ⟨by simp,fun q hq=>⟨_,0,rfl,by
  rw[Xw,g3,WQ _ _ _ _ _ _ (WN W1.drew _)];simp only[Xm,XS] at hq
  match q,hq with
  | 0,_=>rfl
  | 1,_=>rfl
  | 2,_=>rfl⟩⟩ (by simp))
 have HW1:Hq (_=W1):=Hd g2.symm;have g7:Hq (_=W2):=Hd g3.symm;have g9:Hq (W2=grow (W.drewN 1) #[.cells #[.int .i64 x.1,.int .i64 x.2] 257,.cells #[.int .i64 y.1,.int .i64 y.2] 257,.cells #[.int .i64 i,.int .i64 j,.int .i64 k] 3]):=Hd (by rw[g3,g2,Gf,Gf,alloc_eq_grow,alloc_eq_grow,alloc_eq_grow,grow_grow,grow_grow];rfl);rw[<- hi] at HI;rw[<- hj] at HJ;rw[<- hk] at HK;rw[g6];clear g2 g3 g0 g1 hlk cB cT hi hj hk g6 g5 g4
 delta Pt;go_enter func213,ntmps213
 go_upto_region 1 with fail;rw[HW1.o];refine AR (fun W:Wd=>W=W1.drew\/W=W2) false 26 [(0,false),(1,false),(2,false),(3,false),(4,false),(5,false),(6,false),(7,false),(8,false),(9,false),(10,false),(11,false),(13,false),(14,false),(15,false),(16,false),(18,false),(19,false),(20,false),(21,false),(12,true),(17,true),(22,true),(23,true),(24,true),(25,false)] (by kernel_rfl) (by kernel_rfl) (.inl rfl) ?_;simp only[planned,AQ]
 iterate 20
  refine A3 rfl ?_;apply Exists.intro;refine⟨fun w' hw=>?_,?_⟩
  ·rcases hw with rfl|rfl
   . go_simp;rfl
   ·go_simp
    all_goals (try rfl)
  simp only[Ac]
 refine BR (R:=fun v w'=>v=.int .i64 i/\w'=W1.drew) rfl (by go_simp;rfl) ((HI.o _).mono (fun e w' h=>⟨_,h.1,.inl h.2,rfl,h.2⟩)) ?_;rintro _ w' _ ⟨rfl,rfl⟩;simp only[Ac];refine BR (R:=fun v w'=>v=.int .i64 j/\w'=W1.drew) rfl (by go_simp;rfl) ((HJ.o _).mono (fun e w' h=>⟨_,h.1,.inl h.2,rfl,h.2⟩)) ?_;rintro _ w' _ ⟨rfl,rfl⟩;simp only[Ac];refine BR (R:=fun v w'=>v=.int .i64 k/\w'=W1.drew) rfl (by go_simp;rfl) ((HK.o _).mono (fun e w' h=>⟨_,h.1,.inl h.2,rfl,h.2⟩)) ?_;rintro _ w' _ ⟨rfl,rfl⟩;simp only[Ac];refine FK rfl (fun K hK=>?_);unfold Oper.wp;go_simp;rw[Gf,g7.o];refine hK _ _ (.inr rfl) ?_;refine BR (R:=fun v w'=>v=.int .i64 (orI [i,j,k])/\w'=W2) rfl (by go_simp) (g8.o.mono (fun e w' h=>⟨_,h.1,.inr h.2,rfl,h.2⟩)) ?_;rintro _ w' _ ⟨rfl,rfl⟩;simp only[Ac];refine A3 rfl ?_;apply Exists.intro;refine⟨fun w' hw=>?_,?_⟩
 . go_simp;rfl
 simp only[Ac];refine CM ?_;go_wp2_with fail;go_ret;exact⟨rfl,_,_,g9.o⟩
theorem IS (w:Wd)(blk m:Nat)(dk:Array (Nat×Nat))(os:Array Obj)(hg:g<w.heap.size)(hne:g≠blk):(sortWorldK AL 2 w blk 0 m dk os).heap[g]?=w.heap[g]?:=by
 unfold sortWorldK grow putRowK putRow mapBlock;simp[Array.getElem?_append,Y1,Array.getElem_modify,hg,X1 hne]
theorem Lp (w:Wd)(blk m:Nat)(dk:Array (Nat×Nat))(os:Array Obj):w.heap.size<=(sortWorldK AL 2 w blk 0 m dk os).heap.size:=by
 have h:(sortWorldK AL 2 w blk 0 m dk os).heap.size=w.heap.size+os.size:=by
  unfold sortWorldK grow putRowK;simp
 omega
theorem Lq {f:Nat×Nat->Option Nat}(h:Ar w mb encE lm)(hf:∀ k,getL lm k=(f k).map (fun(id:Nat)=>Value.int .i64 id))(k:Nat×Nat) :
 (Instr.lookup 232 (.map (some mb)) (.agg #[.int .i64 k.1,.int .i64 k.2]) false).run prog w=.ok (.int .i64 ((f k).getD 0:Nat)) w:=by
 have h1:=h.lookup Dz underlying232 zeroValue3 k false;rw[hf k] at h1;cases hk:f k with
 | none=>rw[hk] at h1;exact h1
 | some id=>rw[hk] at h1;exact h1
theorem Rm {f:Nat×Nat->Option Nat}{ks:List (Nat×Nat)}{Bx t blk:Nat}(hH:HoldsK AL 2 w blk 0 ks.toArray)(hblk:blk<w.heap.size)(hlen:ks.length<1000000000)
 (cB:w.cell? ⟨Bx,0,none⟩=some (.pointer (some ⟨t,0,none⟩))) (cT:w.cell? ⟨t,0,none⟩=some (.map (some mb))) (hm:Ar w mb encE lm) (hf:∀ k,getL lm k=(f k).map (fun(id:Nat)=>Value.int .i64 id)) (n1:Bx≠blk) (n2:t≠blk) (n3:mb≠blk) :
 Calls prog 212 #[.slice (some ⟨blk,0,none⟩) ks.length cap,.func (.func 213) #[] #[Pt Bx]] w fun e w'=>e=.returned (.tuple #[])/\∃ ks':List (Nat×Nat),ks'.Perm ks/\HoldsK AL 2 w' blk 0 ks'.toArray/\w.heap.size<=w'.heap.size/\w'.os=w.os/\w'.tape=w.tape/\w'.output=w.output/\∀ g,g<w.heap.size->g≠blk->w'.heap[g]?=w.heap[g]?:=by
 have g1:CmpLays prog 213 #[.pointer (some ⟨Bx,0,none⟩)] AL 2 (cfK f) blk 0 ks.toArray.size w:=by
  intro m os dk hs x y;have hk:∀ {p:Addr} {v:Value},w.cell? p=some v->p.block≠blk->(sortWorldK AL 2 w blk 0 m dk os).cell? p=some v:=fun hc hn=>(Xz (w:=w) (IS w blk m dk os (Ag hc) hn)).trans hc
  refine Rl f x y Bx t mb _ (hk cB n1) (hk cT n2) (fun W' k hb=>?_);obtain⟨es,c,g3,rest⟩:=hm.ex;refine Lq (lm:=lm) ⟨⟨es,c,Eq.trans ?_ g3,rest⟩,hm.nodup⟩ hf k;exact(hb.block mb (Xh hm.lt (Lp w blk m dk os))).trans (IS w blk m dk os hm.lt n3)
 have g0:=AnyQ.slices_SortFunc Tryz.sortKeys 2 Tryz.isAgg257 Tryz.sizeOf257 AL (fun _=>rfl) (fun x v hv=>by simp[AL] at hv;rcases hv with rfl|rfl<;>rfl) (cfK f) (swoK f) 213 #[.pointer (some ⟨Bx,0,none⟩)] blk 0 cap ks.toArray w (XY func213 (by kernel_rfl) rfl) g1 hH hblk (by simp;omega)
 change Calls prog 212 _ _ _ at g0
 have e:ks.toArray.size=ks.length:=by simp
 rw[e] at g0;refine g0.mono ?_;rintro x w' ⟨rfl,d',n,os,hp,_,rfl⟩;obtain⟨p1,_,p3⟩:=hp;have p1':d'.size=ks.length:=by simpa using p1
 refine⟨rfl,d'.toList,?_,?_,Lp _ _ _ _ _,rfl,rfl,rfl,fun g hg g2=>IS _ _ _ _ _ hg g2⟩
 ·have q1:d'.extract 0 ks.length=d':=by rw[<- p1'];simp
  rw[q1] at p3;simpa using p3
 . have h1:HoldsK AL 2 (Sort.ahead w n) blk 0 ks.toArray:=hH;have h2:=holdsK_putRowK AL 2 (Sort.ahead w n) blk 0 ks.toArray d' h1 (by simpa using p1');have h3:=holdsK_grow AL 2 (putRowK AL 2 (Sort.ahead w n) blk 0 d') os blk 0 d' (by simp[putRowK,putRow,mapBlock,hblk]) h2;simpa using(show HoldsK AL 2 (sortWorldK AL 2 w blk 0 n d' os) blk 0 d' from h3)
theorem Rn {f:Nat×Nat->Option Nat}{ks:List (Nat×Nat)}(hp:ks.Perm (lm.map Prod.fst))(hn:(lm.map Prod.fst).Nodup)(hf:∀ k,getL lm k=(f k).map (fun(id:Nat)=>Value.int .i64 id)){xs:List ((Nat×Nat)×Nat)}(hx:xs=ks.map (fun k=>(k,(f k).getD 0))) :
 (xs.map Prod.fst).Nodup/\∀ k id,(k,id)∈xs↔f k=some id:=by
 subst hx;have e:(ks.map (fun k=>(k,(f k).getD 0))).map Prod.fst=ks:=by simp[Y7,Function.comp_def]
 have hm:∀ k,k∈ks↔f k≠none:=fun k=>by
  rw[hp.mem_iff];have h1:=CO (l:=lm) (k:=k);rw[hf k] at h1;constructor
  . intro hk e;rw[e] at h1;obtain⟨p,g0,rfl⟩:=WW.1 hk;exact h1.1 rfl p g0 rfl
  ·intro hk
   by_cases hc:k∈lm.map Prod.fst
   . exact hc
   ·exfalso;have:=h1.2 (fun p g0 e=>hc (WW.2 ⟨p,g0,e⟩));cases h2:f k with
    | none=>exact hk h2
    | some i=>rw[h2] at this;cases this
 refine⟨by rw[e];exact hp.nodup_iff.2 hn,fun k id=>?_⟩;simp only[WW,Yc];constructor
 ·rintro⟨k0,h0,rfl,rfl⟩;cases h2:f k0 with
  | none=>exact absurd h2 ((hm k0).1 h0)
  | some i=>rfl
 . intro h;exact⟨k,(hm k).2 (by rw[h];simp),rfl,by rw[h];rfl⟩
abbrev Yj:=@List.take_append_drop
theorem Ro {α:Type}{G:List α->Prop}{xs:List α}(hg:G xs){x:α}(hx:xs[k]?=some x):∃ suf,G (xs.take k++x::suf)/\xs.take (k+1)=xs.take k++[x]:=by
 obtain⟨hk,e⟩:=Xk.1 hx;refine⟨xs.drop (k+1),?_,by rw[WZ hk,e]⟩;have:xs.take k++x::xs.drop (k+1)=xs:=by
  rw[<- e,<- X2 hk];exact Yj k xs
 rw[this];exact hg
open Go.RowKit
theorem Lr {o:Own}(h:Ay o w sb d)(hlt:Ab o w)(hk:Ai d V)(f:Nat)(hf:okE (Aa d) f)(v:Int) :
 Calls prog 202 #[Pt sb,.int .i64 f,.int .i64 v] w (Bl (.tuple #[.int .i64 (cofs d f v).1,.int .i64 (cofs d f v).2]) w):=by
 have HA:=Hd (FY h hlt hk f hf);clear h hk hlt hf;unfold atV at HA;unfold cofs;cases hb:Aa d (f/2) with
 | none =>
   rw[hb] at HA;clear hb
   delta Pt;go_enter func202,ntmps202
   go_wp2_with fail;refine HA.o.mono ?_;rintro x w' ⟨rfl,hb⟩;have HB:=Hd hb;clear hb;go_wp2_with fail
   go_ret2
   exact⟨rfl,HB.o⟩
 | some b =>
   rw[hb] at HA;clear hb
   by_cases e:(b.v:Int)=v
   ·subst e;have HE:Hq ((if (b.v:Int)=b.v then (eflip b.lo (eneg f),eflip b.hi (eneg f)) else (f,f))=(eflip b.lo (eneg f),eflip b.hi (eneg f))):=by show _=_;rw[WR rfl]
    delta Pt;go_enter func202,ntmps202
    go_wp2_with fail;refine HA.o.mono ?_;rintro x w' ⟨rfl,hb⟩;have HB:=Hd hb;clear hb;go_wp2_with fail
    go_ret2
    exact⟨by first|rfl|(rw[HE.o];rfl),HB.o⟩
   ·have HE:Hq ((if (b.v:Int)=v then (eflip b.lo (eneg f),eflip b.hi (eneg f)) else (f,f))=(f,f)):=by show _=_;rw[WO e]
    have H1:((b.v:Int) == v)=false:=by simpa using e
    delta Pt;go_enter func202,ntmps202
    go_wp2_with fail;refine HA.o.mono ?_;rintro x w' ⟨rfl,hb⟩;have HB:=Hd hb;clear hb;go_wp2_with fail
    go_ret2
    exact⟨by first|rfl|(rw[HE.o];rfl),HB.o⟩
def AY (d:Ae)(k:Nat):Ae:={ d with vars:=(d.vars.set k (d.vars.getD (k+1) 0)).set (k+1) (d.vars.getD k 0),level:=(d.level.set (d.vars.getD k 0) (k+1)).set (d.vars.getD (k+1) 0) k }
theorem Gh:(prog.info? 3).map (fun i=>i.size)=some 1:=by kernel_rfl
theorem E3 {l:List Nat}(hk:k<l.length):(l.map nat64)[k]?=some (.int .i64 (l.getD k 0:Nat)):=by
 rw[XC,WS hk];simp[nat64,List.getD,hk]
abbrev Zm:=@IntWalk.i64_in
theorem Rp {o:Own}(h:Ao o w sb d s)(k:Nat)(hk:k+1<d.vars.length)(hl:d.vars.length<=64)(ha:d.vars.getD k 0<d.level.length)(hb:d.vars.getD (k+1) 0<d.level.length) :
 Calls prog 190 #[Pt s.lb,.int .i64 k] w fun x w'=>x=.returned (.tuple #[])/\Ao o w' sb (AY d k) s/\Chg Al o o w w':=by
 obtain⟨d0,d1,_⟩:=cells2 h.lev;obtain⟨gv,cv,g5,g2,_⟩:=h.vars.shape (by omega);obtain⟨gl,cl,g6,g3,_⟩:=h.level.shape (by omega);have gd:=h.len;have r1:=h.vars;have r2:=h.level;rw[g5] at r1 d0;rw[g6] at r2 d1;have a0:=r1.cell k (by simp;omega);have a1:=r1.cell (k+1) (by simp;omega);rw[E3 (by omega)] at a0;rw[E3 hk] at a1;obtain⟨A,hA⟩:=Ex (d.vars.getD k 0);obtain⟨B,hB⟩:=Ex (d.vars.getD (k+1) 0);rw[<- hA] at a0 ha;rw[<- hB] at a1 hb;have b0:=r2.cell A (by simpa using ha);have b1:=r2.cell B (by simpa using hb);rw[E3 ha] at b0;rw[E3 hb] at b1;have fv:=r1.frozen;have fl:=r2.frozen;have gn:(k:Int)<d.vars.length:=by omega
 have gm:(k:Int)+1<d.vars.length:=by omega
 have nvl:gv≠s.lb:=fun e=>by have:=h.ownl;rw[<- e,g2] at this;cases this
 have nll:gl≠s.lb:=fun e=>by have:=h.ownl;rw[<- e,g3] at this;cases this
 have nvg:gv≠gl:=fun e=>by rw[e,g3] at g2;cases g2
 have nvs:gv≠sb:=fun e=>by have:=h.own;rw[<- e,g2] at this;cases this
 have nls:gl≠sb:=fun e=>by have:=h.own;rw[<- e,g3] at this;cases this
 obtain⟨LA,ga⟩:∃ L,L=d.level.getD A 0:=⟨_,rfl⟩;obtain⟨LB,g9⟩:∃ L,L=d.level.getD B 0:=⟨_,rfl⟩;have ge:Hq (∀ w1 w2:Wd,w1.heap=w.heap->w1.os=w.os->w1.tape=w.tape->w1.output=w.output->w2=((((w1.setCell ⟨gv,k,none⟩ (.int .i64 B)).setCell ⟨gv,k+1,none⟩ (.int .i64 A)).setCell ⟨gl,A,none⟩ (.int .i64 (k+1:Nat))).setCell ⟨gl,B,none⟩ (.int .i64 k))->Ao o w2 sb (AY d k) s/\Chg Al o o w w2):=by
  refine Hd ?_;rintro w1 w2 e1 e2 e3 e4 rfl;have gj:w1.heap.size=w.heap.size:=by rw[e1]
  have gf:Bw w w1:=⟨e2,e3,e4,by omega,fun k _=>by rw[e1]⟩;have gg:∀ g,g≠gv->g≠gl->((((w1.setCell ⟨gv,k,none⟩ (.int .i64 B)).setCell ⟨gv,k+1,none⟩ (.int .i64 A)).setCell ⟨gl,A,none⟩ (.int .i64 (k+1:Nat))).setCell ⟨gl,B,none⟩ (.int .i64 k)).heap[g]?=w.heap[g]?:=fun g n1 n2=>by
   rw[Aw n2,Aw n2,Aw n1,Aw n1,e1]
  have k1:∀ {g r},o g=some r->r ≠ .vars->r ≠ .level->((((w1.setCell ⟨gv,k,none⟩ (.int .i64 B)).setCell ⟨gv,k+1,none⟩ (.int .i64 A)).setCell ⟨gl,A,none⟩ (.int .i64 (k+1:Nat))).setCell ⟨gl,B,none⟩ (.int .i64 k)).heap[g]?=w.heap[g]?:=fun hg n1 n2=>gg _ (by rintro rfl;rw[g2] at hg;cases hg;exact n1 rfl) (by rintro rfl;rw[g3] at hg;cases hg;exact n2 rfl)
  have g7:=h.vars.keep (w':=w1) (fun g _=>by rw[e1]) (fun _ h=>h);rw[g5] at g7;have gb:=((((g7.stored k (.int .i64 B)).stored (k+1) (.int .i64 A)).setCell_other (p:=⟨gl,A,none⟩) (by rw[g3];simp) (.int .i64 (k+1:Nat))).setCell_other (p:=⟨gl,B,none⟩) (by rw[g3];simp) (.int .i64 k));have g8:=h.level.keep (w':=w1) (fun g _=>by rw[e1]) (fun _ h=>h);rw[g6] at g8;have gc:=(((g8.setCell_other (p:=⟨gv,k,none⟩) (by rw[g2];simp) (.int .i64 B)).setCell_other (p:=⟨gv,k+1,none⟩) (by rw[g2];simp) (.int .i64 A)).stored A (.int .i64 (k+1:Nat))).stored B (.int .i64 k)
  refine⟨⟨h.own,h.ownl,(k1 h.own (by simp) (by simp)).trans h.blk,(k1 h.ownl (by simp) (by simp)).trans h.lev,?_,?_,h.pool.keep (fun g r hg hr=>k1 hg (by rintro rfl;simp at hr) (by rintro rfl;simp at hr)) (fun _ _ h=>h),h.tabs.keep (fun g hg=>k1 hg (by simp) (by simp)) (fun _ h=>h),
   fun v hv=>(h.tab v hv).keep (fun g r hg hr=>k1 hg (by rintro rfl;simp at hr) (by rintro rfl;simp at hr)) (fun _ _ h=>h),h.counts.keep (fun g hg=>k1 hg (by simp) (by simp)) (fun _ h=>h),by simp[AY,h.len],by simp[AY,h.tlen]⟩,?_⟩
  . rw[g5];simp only[AY,Xi,Yv,<- hA,<- hB];exact gb
  . rw[g6];simp only[AY,Xi,Yv,<- hA,<- hB];exact gc
  . exact((((Chg.of_below gf Al o).setCell (p:=⟨gv,k,none⟩) g2 (by simp[Al]) _).setCell (p:=⟨gv,k+1,none⟩) g2 (by simp[Al]) _).setCell (p:=⟨gl,A,none⟩) g3 (by simp[Al]) _).setCell (p:=⟨gl,B,none⟩) g3 (by simp[Al]) _
 rw[<- ga] at b0;rw[<- g9] at b1;have gp:(A:Int)<d.level.length:=by omega
 have go:(B:Int)<d.level.length:=by omega
 have gq:=Hd r1;have gr:=Hd r2;have gi:IntKind.i64.wrap ((k:Int)+1)=((k+1:Nat):Int):=by rw[Zm _ (by omega)];rfl
 have gk:((k+1:Nat):Int)<d.vars.length:=by omega
 clear h g5 g6 g2 g3 hA hB ga g9 r1 r2 gd
 delta Pt;go_enter func190,ntmps190
 go_upto_region 0 with fail
 go_quiet (fail)
 go_upto_region 1 with fail;refine AR (fun W:Wd=>W.cell? ⟨s.lb,0,none⟩=some (.slice (some ⟨gv,0,none⟩) d.vars.length cv)/\True) true 16 [(0,false),(1,false),(2,false),(3,false),(4,false),(5,false),(6,false),(7,false),(8,false),(9,false),(10,false),(11,false),(12,false),(13,false),(14,true),(15,false),(16,true)] (by kernel_rfl) (by kernel_rfl) ⟨d0,trivial⟩ ?_;simp only[planned,AQ]
 iterate 14
  refine A3 rfl ?_;apply Exists.intro;refine⟨fun w' hw=>?_,?_⟩
  . obtain⟨h1,_⟩:=hw;go_simp;rfl
  simp only[Ac]
 refine Ih (w':=(w.drewN nq).drew.setCell ⟨gv,k,none⟩ (.int .i64 B)) rfl rfl (ET (w:=(w.drewN nq).drew) Gh a0 (fv _) rfl rfl) ⟨Ct (w:=(w.drewN nq).drew) d0 (.inl nvl),trivial⟩ ?_;simp only[Ac]
 iterate 1
  refine A3 rfl ?_;apply Exists.intro;refine⟨fun w' hw=>?_,?_⟩
  . obtain⟨h1,_⟩:=hw;go_simp;rfl
  simp only[Ac]
 refine EU (w':=((w.drewN nq).drew.setCell ⟨gv,k,none⟩ (.int .i64 B)).setCell ⟨gv,k+1,none⟩ (.int .i64 A)) rfl rfl (ET Gh (Ct (w:=(w.drewN nq).drew) a1 (.inr (by omega))) ((Yi _ _ _ _).trans (fv _)) rfl rfl) ?_;simp only[Ac];obtain⟨w4,g4⟩:=Ex (((w.drewN nq).drew.setCell ⟨gv,k,none⟩ (.int .i64 B)).setCell ⟨gv,k+1,none⟩ (.int .i64 A));have e1:w4.cell? ⟨s.lb,1,none⟩=some (.slice (some ⟨gl,0,none⟩) d.level.length cl):=by rw[g4];exact Ct (Ct (w:=(w.drewN nq).drew) d1 (.inl nvl)) (.inl nvl)
 have g0:w4.cell? ⟨gl,A,none⟩=some (.int .i64 LA):=by rw[g4];exact Ct (Ct (w:=(w.drewN nq).drew) b0 (.inl nvg)) (.inl nvg)
 have g1:w4.cell? ⟨gl,B,none⟩=some (.int .i64 LB):=by rw[g4];exact Ct (Ct (w:=(w.drewN nq).drew) b1 (.inl nvg)) (.inl nvg)
 have fl4:∀ j,w4.frozen? ⟨gl,j,none⟩=false:=fun j=>by rw[g4];exact(Yi _ _ _ _).trans ((Yi _ _ _ _).trans (fl j))
 have gh:=Hd g4;rw[<- g4];clear g4 a0 a1 b0 b1 d0 d1 fv fl;go_upto_region 2 with fail;refine AR (fun W:Wd=>W.cell? ⟨s.lb,1,none⟩=some (.slice (some ⟨gl,0,none⟩) d.level.length cl)/\True) true 16 [(0,false),(1,false),(2,false),(3,false),(4,false),(5,false),(6,false),(7,false),(8,false),(9,false),(10,false),(11,false),(12,false),(13,false),(14,true),(15,false),(16,true)] (by kernel_rfl) (by kernel_rfl) ⟨e1,trivial⟩ ?_;simp only[planned,AQ]
 iterate 14
  refine A3 rfl ?_;apply Exists.intro;refine⟨fun w' hw=>?_,?_⟩
  . obtain⟨h1,_⟩:=hw;go_simp;rfl
  simp only[Ac]
 refine Ih (w':=w4.drew.setCell ⟨gl,A,none⟩ (.int .i64 (k+1:Nat))) rfl rfl (ET (w:=w4.drew) Gh g0 (fl4 _) rfl rfl) ⟨Ct (w:=w4.drew) e1 (.inl nll),trivial⟩ ?_;simp only[Ac]
 iterate 1
  refine A3 rfl ?_;apply Exists.intro;refine⟨fun w' hw=>?_,?_⟩
  . obtain⟨h1,_⟩:=hw;go_simp;rfl
  simp only[Ac]
 have g1':∃ u,(w4.drew.setCell ⟨gl,A,none⟩ (.int .i64 (k+1:Nat))).cell? ⟨gl,B,none⟩=some u:=AU (w:=w4.drew) g1;obtain⟨u,g1'⟩:=g1';refine EU (w':=(w4.drew.setCell ⟨gl,A,none⟩ (.int .i64 (k+1:Nat))).setCell ⟨gl,B,none⟩ (.int .i64 k)) rfl rfl (ET Gh g1' ((Yi _ _ _ _).trans (fl4 _)) rfl rfl) ?_;simp only[Ac];go_wp2_with fail;go_end0;obtain⟨q1,q2⟩:=ge.o ((w.drewN nq).drew.drew) ((w4.drew.setCell ⟨gl,A,none⟩ (.int .i64 (k+1:Nat))).setCell ⟨gl,B,none⟩ (.int .i64 k)) rfl rfl rfl rfl (by rw[gh.o];rfl);exact⟨rfl,q1,q2⟩
section
variable {lev:Nat->Nat}{N0:Nat->Option BN}
def Bm (lev:Nat->Nat)(x y:Nat):Nat->Nat:=fun v=>if v=x then lev y else if v=y then lev x else lev v
def isV (N:Nat->Option BN)(y e:Nat):Prop:=∃ c,N (e/2)=some c/\c.v=y
def Turns (N:Nat->Option BN)(x y:Nat)(i:Nat):Prop:=∃ b,N i=some b/\b.v=x/\(isV N y b.lo\/isV N y b.hi)
def lowE (n:Nat)(lev:Nat->Nat)(N:Nat->Option BN)(y e:Nat):Prop:=okE N e/\lev y<lvE n lev N e
def midE (n:Nat)(lev:Nat->Nat)(N0 N:Nat->Option BN)(x y e:Nat):Prop:=lowE n lev N0 y e\/∃ c,N (e/2)=some c/\c.v=x/\¬ Turns N0 x y (e/2)
structure Bo (n:Nat)(lev:Nat->Nat)(N0:Nat->Option BN)(V0:Nat->BF)(x y:Nat)(done:Nat->Prop)(N:Nat->Option BN)(V:Nat->BF):Prop where
 n0:N 0=none
 ext:∀ i,(i=0\/∃ b,N0 i=some b)->V i=V0 i
 keep:∀ i b,N0 i=some b->¬ done i->N i=some b
 fresh:∀ i b,N i=some b->N0 i=none->b.v=x/\lowE n lev N0 y b.lo/\lowE n lev N0 y b.hi/\b.hi%2=0/\b.lo≠b.hi/\V i=iteF x (ef V0 b.hi) (ef V0 b.lo)
 dn:∀ i,done i->Turns N0 x y i/\∃ b,N i=some b/\b.v=y/\midE n lev N0 N x y b.lo/\midE n lev N0 N x y b.hi/\b.hi%2=0/\b.lo≠b.hi/\V0 i=iteF y (ef V b.hi) (ef V b.lo)
 xu:∀ i j b,N i=some b->N j=some b->b.v=x->¬ Turns N0 x y i->¬ Turns N0 x y j->i=j
theorem BC (hext:∀ i,(i=0\/∃ b,N0 i=some b)->V i=V0 i)(h:okE N0 e):ef V e=ef V0 e:=by
 funext ρ;simp only[ef,hext _ h]
theorem Bo.start (h:Dag n lev N0 V0)(x y:Nat):Bo n lev N0 V0 x y (fun _=>False) N0 V0 :=
 ⟨h.none0,fun _ _=>rfl,fun _ _ h _=>h,fun i b hb hn=>by (rw[hn] at hb;cases hb),fun _ h=>h.elim,fun i j b hi hj _ _ _=>h.uniq i j b hi hj⟩
variable {done:Nat->Prop}
theorem Bo.has (m:Bo n lev N0 V0 x y done N V){b:BN}(hb:N0 i=some b):∃ b',N i=some b':=by
 by_cases hd:done i
 . obtain⟨_,b',g0,_⟩:=m.dn i hd;exact⟨b',g0⟩
 . exact⟨b,m.keep i b hb hd⟩
theorem Bo.add (m:Bo n lev N0 V0 x y done N V){b:BN}(hf:N id=none)(hid:id≠0)(hv:b.v=x)
 (hlo:lowE n lev N0 y b.lo) (hhi:lowE n lev N0 y b.hi) (hr:b.hi%2=0) (hne:b.lo≠b.hi) (hnew:∀ i,¬ Turns N0 x y i->N i≠some b) :
 Bo n lev N0 V0 x y done (addN N id b) (addV V id b):=by
 have g8:N0 id=none:=by
  cases e:N0 id with
  | none=>rfl
  | some c=>obtain⟨b',g6⟩:=m.has e;rw[hf] at g6;cases g6
 have ne0:∀ i,(i=0\/∃ b,N0 i=some b)->i≠id:=by
  rintro i (rfl|⟨c,hc⟩)
  . exact X1 hid
  . rintro rfl;rw[g8] at hc;cases hc
 have cs:∀ i c,addN N id b i=some c->(i=id/\c=b)\/(i≠id/\N i=some c):=by
  intro i c hx
  by_cases e:i=id
  . subst e;rw[BQ] at hx;exact .inl ⟨rfl,(XL hx).symm⟩
  . rw[Bc _ e] at hx;exact .inr ⟨e,hx⟩
 have g3:∀ i,(i=0\/∃ b,N0 i=some b)->addV V id b i=V0 i:=fun i hi=>by
  simp only[addV,WO (ne0 i hi)];exact m.ext i hi
 refine⟨by rw[Bc _ (X1 hid)];exact m.n0,g3,?_,?_,?_,?_⟩
 . intro i c hc hd;rw[Bc _ (ne0 i (.inr ⟨c,hc⟩))];exact m.keep i c hc hd
 ·intro i c hc hn;rcases cs i c hc with ⟨e1,e2⟩|⟨g0,gc⟩
  ·subst e1;subst e2
   exact⟨hv,hlo,hhi,hr,hne,by simp only[addV,XP,hv,BC m.ext hlo.1,BC m.ext hhi.1]⟩
  . obtain⟨h1,h2,h3,h4,h5,h6⟩:=m.fresh i c gc hn;exact⟨h1,h2,h3,h4,h5,by simp only[addV,WO g0];exact h6⟩
 ·intro i hd;obtain⟨hT,c,hc,h1,h2,h3,h4,h5,h6⟩:=m.dn i hd;have g1:∀ e,midE n lev N0 N x y e->midE n lev N0 (addN N id b) x y e/\ef (addV V id b) e=ef V e:=by
   rintro e (hl|⟨d,g4,ga,g9⟩)
   . exact⟨.inl hl,by rw[BC g3 hl.1,BC m.ext hl.1]⟩
   ·have g0:e/2≠id:=by rintro e';rw[e',hf] at g4;cases g4
    refine⟨.inr ⟨d,by rw[Bc _ g0];exact g4,ga,g9⟩,?_⟩;funext ρ;simp only[ef,addV,WO g0]
  have g7:i≠id:=ne0 i (.inr (by obtain⟨q,hq,_⟩:=hT;exact⟨q,hq⟩));exact⟨hT,c,by rw[Bc _ g7];exact hc,h1,(g1 _ h2).1,(g1 _ h3).1,h4,h5,by rw[(g1 _ h2).2,(g1 _ h3).2];exact h6⟩
 ·intro i j c hi hj gb ti tj;rcases cs i c hi with ⟨e1,e2⟩|⟨_,g5⟩
  ·rcases cs j c hj with ⟨e3,_⟩|⟨_,g2⟩
   . rw[e1,e3]
   . subst e2;exact absurd g2 (hnew j tj)
  ·rcases cs j c hj with ⟨_,e2⟩|⟨_,g2⟩
   . subst e2;exact absurd g5 (hnew i ti)
   . exact m.xu i j c g5 g2 gb ti tj
def setN (N:Nat->Option BN)(i:Nat)(b:BN):Nat->Option BN:=fun j=>if j=i then some b else N j
theorem Bo.turn (m:Bo n lev N0 V0 x y done N V)(hxy:x≠y)(hT:Turns N0 x y i)(hlo:midE n lev N0 N x y lo)(hhi:midE n lev N0 N x y hi)(hr:hi%2=0)(hne:lo≠hi)
 (hV:V0 i=iteF y (ef V hi) (ef V lo)):Bo n lev N0 V0 x y (fun j=>done j\/j=i) (setN N i ⟨y,lo,hi⟩) V:=by
 obtain⟨b0,g3,ge,gd⟩:=hT;have hT:Turns N0 x y i:=⟨b0,g3,ge,gd⟩;have g9:i≠0:=by
  rintro rfl;obtain⟨b',g4⟩:=m.has g3;rw[m.n0] at g4;cases g4
 have cs:∀ j c,setN N i ⟨y,lo,hi⟩ j=some c->(j=i/\c=⟨y,lo,hi⟩)\/(j≠i/\N j=some c):=by
  intro j c hx
  by_cases e:j=i
  . subst e;simp only[setN,XP,X0] at hx;exact .inl ⟨rfl,hx.symm⟩
  . simp only[setN,WO e] at hx;exact .inr ⟨e,hx⟩
 have g0:∀ e,midE n lev N0 N x y e->midE n lev N0 (setN N i ⟨y,lo,hi⟩) x y e:=by
  rintro e (hl|⟨d,gb,ga,g1⟩)
  . exact .inl hl
  ·have g5:e/2≠i:=by rintro e';rw[e'] at g1;exact g1 hT
   exact .inr ⟨d,by simp only[setN,WO g5];exact gb,ga,g1⟩
 refine⟨by simp only[setN,WO (X1 g9)];exact m.n0,m.ext,?_,?_,?_,?_⟩
 ·intro j c hc hd;have g7:j≠i:=fun e=>hd (.inr e)
  simp only[setN,WO g7];exact m.keep j c hc (fun h=>hd (.inl h))
 ·intro j c hc hn;rcases cs j c hc with ⟨e1,_⟩|⟨_,gc⟩
  . subst e1;rw[g3] at hn;cases hn
  . exact m.fresh j c gc hn
 ·intro j hd
  by_cases e:j=i
  . subst e;exact⟨hT,⟨y,lo,hi⟩,by simp only[setN,XP],rfl,g0 _ hlo,g0 _ hhi,hr,hne,hV⟩
  . obtain⟨gf,c,hc,h1,h2,h3,h4,h5,h6⟩:=m.dn j (hd.resolve_right e);exact⟨gf,c,by simp only[setN,WO e];exact hc,h1,g0 _ h2,g0 _ h3,h4,h5,h6⟩
 ·intro j k c hj hk g2 tj tk;rcases cs j c hj with ⟨e1,e2⟩|⟨_,g8⟩
  . subst e2;exact absurd g2.symm hxy
  ·rcases cs k c hk with ⟨e1,e2⟩|⟨_,g6⟩
   . subst e2;exact absurd g2.symm hxy
   . exact m.xu j k c g8 g6 g2 tj tk
theorem DZ (lev:Nat->Nat)(x y:Nat):Bm lev x y x=lev y:=by simp[Bm]
theorem Ea (lev:Nat->Nat)(h:x≠y):Bm lev x y y=lev x:=by simp[Bm,X1 h]
theorem Ff (lev:Nat->Nat){v:Nat}(hx:v≠x)(hy:v≠y):Bm lev x y v=lev v:=by simp[Bm,hx,hy]
theorem Rq (hxl:lev x<lev y)(hl:lowE n lev N0 y e){c:BN}(hc:N0 (e/2)=some c):c.v≠x/\c.v≠y:=by
 have:=hl.2;simp only[lvE,hc] at this;exact⟨by rintro e;rw[e] at this;omega,by rintro e;rw[e] at this;omega⟩
theorem Bo.final (h:Dag n lev N0 V0)(hx:x<n)(hy:y<n)(hl:lev y=lev x+1)(m:Bo n lev N0 V0 x y done N V)(hall:∀ i,Turns N0 x y i->done i):Dag n (Bm lev x y) N V:=by
 have g5:x≠y:=by rintro rfl;omega
 have gj:lev x<lev y:=by omega
 have kinds:∀ i b,N i=some b->(N0 i=none/\b.v=x/\lowE n lev N0 y b.lo/\lowE n lev N0 y b.hi/\b.hi%2=0/\b.lo≠b.hi/\V i=iteF x (ef V0 b.hi) (ef V0 b.lo)) \/
  (Turns N0 x y i/\b.v=y/\midE n lev N0 N x y b.lo/\midE n lev N0 N x y b.hi/\b.hi%2=0/\b.lo≠b.hi/\V0 i=iteF y (ef V b.hi) (ef V b.lo)) \/
  (N0 i=some b/\¬ Turns N0 x y i):=by
  intro i b hb;cases e:N0 i with
  | none=>exact .inl ⟨rfl,m.fresh i b hb e⟩
  | some c =>
    right
    by_cases hd:done i
    . obtain⟨hT,b',g4,rest⟩:=m.dn i hd;obtain rfl:b'=b:=XL (g4.symm.trans hb);exact .inl ⟨hT,rest⟩
    . have:=m.keep i c e hd;obtain rfl:c=b:=XL (this.symm.trans hb);exact .inr ⟨rfl,fun hT=>hd (hall i hT)⟩
 have low:∀ e,lowE n lev N0 y e->okE N e/\lvE n (Bm lev x y) N e=lvE n lev N0 e/\ef V e=ef V0 e:=by
  intro e he;refine⟨?_,?_,BC m.ext he.1⟩
  ·rcases he.1 with h0|⟨c,hc⟩
   . exact .inl h0
   . obtain⟨b',g4⟩:=m.has hc;exact .inr ⟨b',g4⟩
  ·rcases he.1 with h0|⟨c,hc⟩
   . simp only[lvE,h0,m.n0,h.none0]
   ·have ge:=Rq gj he hc;have gi:¬ done (e/2):=fun hd=>by
     obtain⟨⟨q,hq,gb,_⟩,_⟩:=m.dn _ hd;rw[hc] at hq;cases hq;exact ge.1 gb
    simp only[lvE,m.keep _ _ hc gi,hc,Ff lev ge.1 ge.2]
 have mid:∀ e,midE n lev N0 N x y e->okE N e/\lev x<lvE n (Bm lev x y) N e:=by
  rintro e (he|⟨c,hc,g9,_⟩)
  . obtain⟨h1,h2,_⟩:=low e he;exact⟨h1,by rw[h2];have:=he.2;omega⟩
  . exact⟨.inr ⟨c,hc⟩,by simp only[lvE,hc,g9,DZ];omega⟩
 have old:∀ i b e,N0 i=some b->¬ Turns N0 x y i->(e=b.lo\/e=b.hi)->okE N e/\Bm lev x y b.v<lvE n (Bm lev x y) N e/\ef V e=ef V0 e:=by
  intro i b e hb g0 he;have ho:okE N0 e:=by rcases he with rfl|rfl;exact h.okLo _ _ hb;exact h.okHi _ _ hb
  have g1:lev b.v<lvE n lev N0 e:=by rcases he with rfl|rfl;exact h.lvLo _ _ hb;exact h.lvHi _ _ hb
  have gh:b.v=x->¬ isV N0 y e:=fun g8 gg=>g0 ⟨b,hb,g8,by rcases he with rfl|rfl;exact .inl gg;exact .inr gg⟩
  refine⟨?_,?_,BC m.ext ho⟩
  ·rcases ho with h0|⟨c,hc⟩
   . exact .inl h0
   . obtain⟨b',g4⟩:=m.has hc;exact .inr ⟨b',g4⟩
  ·by_cases g8:b.v=x
   ·have g7:lowE n lev N0 y e:=by
     refine⟨ho,?_⟩;rw[g8] at g1;rcases ho with h0|⟨c,hc⟩
     . simp only[lvE,h0,h.none0] at g1 ⊢;exact h.lt y hy
     ·simp only[lvE,hc] at g1 ⊢;have:c.v≠y:=fun e'=>gh g8 ⟨c,hc,e'⟩
      have h2:lev c.v≠lev y:=fun e'=>this (h.inj _ _ (h.var _ _ hc) hy e')
      omega
    rw[(low e g7).2.1,g8,DZ];exact g7.2
   ·by_cases gf:b.v=y
    . have g7:lowE n lev N0 y e:=⟨ho,by rw[gf] at g1;exact g1⟩;rw[(low e g7).2.1,gf,Ea lev g5];have:=g7.2;omega
    ·rw[Ff lev g8 gf];rcases ho with h0|⟨c,hc⟩
     . simp only[lvE,h0,m.n0];exact h.lt _ (h.var _ _ hb)
     ·simp only[lvE,hc] at g1;have gk:=h.var _ _ hc
      by_cases hd:done (e/2)
      ·obtain⟨⟨q,hq,gb,_⟩,b',g4,hb'y,_⟩:=m.dn _ hd;rw[hc] at hq;cases hq
       simp only[lvE,g4,hb'y,Ea lev g5];rw[gb] at g1;exact g1
      ·simp only[lvE,m.keep _ _ hc hd]
       by_cases g9:c.v=x
       . rw[g9,DZ];rw[g9] at g1;omega
       ·by_cases gd:c.v=y
        ·rw[gd,Ea lev g5];rw[gd] at g1;have h2:lev b.v≠lev x:=fun e'=>g8 (h.inj _ _ (h.var _ _ hb) hx e')
         omega
        . rw[Ff lev g9 gd];exact g1
 refine⟨fun ρ=>by rw[m.ext 0 (.inl rfl)];exact h.one ρ,m.n0,?_,?_,?_,?_,?_,?_,?_,?_,?_,?_,?_⟩
 ·intro i b hb;rcases kinds i b hb with ⟨_,hv,_⟩|⟨_,hv,_⟩|⟨h0,_⟩
  . rw[hv];exact hx
  . rw[hv];exact hy
  . exact h.var _ _ h0
 ·intro u v hu hv he;have hs:∀ u,u<n->Bm lev x y u=lev (if u=x then y else if u=y then x else u):=by
   intro u _;simp only[Bm];(split;· rfl);split<;>rfl
  have hb:∀ u,u<n->(if u=x then y else if u=y then x else u)<n:=by
   intro u hu;(split;· exact hy);(split;· exact hx);exact hu
  rw[hs u hu,hs v hv] at he;have:=h.inj _ _ (hb u hu) (hb v hv) he
  by_cases a:u=x
  ·rw[WR a] at this
   by_cases b:v=x
   . rw[a,b]
   ·rw[WO b] at this
    by_cases c:v=y
    . rw[WR c] at this;exact absurd this.symm g5
    . rw[WO c] at this;exact absurd this.symm c
  ·rw[WO a] at this
   by_cases b:v=x
   ·rw[WR b] at this
    by_cases c:u=y
    . rw[WR c] at this;exact absurd this g5
    . rw[WO c] at this;exact absurd this c
   ·rw[WO b] at this
    by_cases c:u=y
    ·rw[WR c] at this
     by_cases d:v=y
     . rw[c,d]
     . rw[WO d] at this;exact absurd this.symm b
    ·rw[WO c] at this
     by_cases d:v=y
     . rw[WR d] at this;exact absurd this a
     . rw[WO d] at this;exact this
 ·intro v hv;simp only[Bm];split
  . exact h.lt y hy
  ·split
   . exact h.lt x hx
   . exact h.lt v hv
 ·intro i b hb;rcases kinds i b hb with ⟨_,_,g2,_⟩|⟨_,_,g2,_⟩|⟨h0,g0⟩
  . exact(low _ g2).1
  . exact(mid _ g2).1
  . exact(old i b b.lo h0 g0 (.inl rfl)).1
 ·intro i b hb;rcases kinds i b hb with ⟨_,_,_,g3,_⟩|⟨_,_,_,g3,_⟩|⟨h0,g0⟩
  . exact(low _ g3).1
  . exact(mid _ g3).1
  . exact(old i b b.hi h0 g0 (.inr rfl)).1
 ·intro i b hb;rcases kinds i b hb with ⟨_,hv,g2,_⟩|⟨_,hv,g2,_⟩|⟨h0,g0⟩
  . rw[hv,DZ,(low _ g2).2.1];exact g2.2
  . rw[hv,Ea lev g5];exact(mid _ g2).2
  . exact(old i b b.lo h0 g0 (.inl rfl)).2.1
 ·intro i b hb;rcases kinds i b hb with ⟨_,hv,_,g3,_⟩|⟨_,hv,_,g3,_⟩|⟨h0,g0⟩
  . rw[hv,DZ,(low _ g3).2.1];exact g3.2
  . rw[hv,Ea lev g5];exact(mid _ g3).2
  . exact(old i b b.hi h0 g0 (.inr rfl)).2.1
 ·intro i b hb;rcases kinds i b hb with ⟨_,_,_,_,hr,_⟩|⟨_,_,_,_,hr,_⟩|⟨h0,_⟩
  . exact hr
  . exact hr
  . exact h.reg _ _ h0
 ·intro i b hb;rcases kinds i b hb with ⟨_,_,_,_,_,gc,_⟩|⟨_,_,_,_,_,gc,_⟩|⟨h0,_⟩
  . exact gc
  . exact gc
  . exact h.ne _ _ h0
 ·intro i j b hi hj;have yFn:∀ i,N i=some b->b.v=y->(∃ c,N0 i=some c)/\V0 i=iteF y (ef V b.hi) (ef V b.lo):=by
   intro i hi hv;rcases kinds i b hi with ⟨_,g6,_⟩|⟨⟨q,hq,_⟩,_,_,_,_,_,hV⟩|⟨h0,g0⟩
   . rw[hv] at g6;exact absurd g6.symm g5
   . exact⟨⟨q,hq⟩,hV⟩
   . refine⟨⟨b,h0⟩,?_⟩;rw[(old i b b.lo h0 g0 (.inl rfl)).2.2,(old i b b.hi h0 g0 (.inr rfl)).2.2,<- hv];exact h.eqn _ _ h0
  have xT:b.v=x->∀ i,N i=some b->¬ Turns N0 x y i:=by
   intro hv i hi hT;obtain⟨_,b',g4,hb'y,_⟩:=m.dn i (hall i hT);rw[hi] at g4;cases g4
   rw[hv] at hb'y;exact g5 hb'y
  by_cases g6:b.v=x
  . exact m.xu i j b hi hj g6 (xT g6 i hi) (xT g6 j hj)
  ·by_cases ga:b.v=y
   ·obtain⟨⟨c,hc⟩,e1⟩:=yFn i hi ga;obtain⟨⟨d,hd⟩,e2⟩:=yFn j hj ga;have:2*i=2*j:=by
     refine h.canon (Dq hc) (Dq hd) ?_;funext ρ;have h1:2*i/2=i:=by omega
     have h2:2*j/2=j:=by omega
     have h3:2*i%2=0:=by omega
     have h4:2*j%2=0:=by omega
     simp only[ef,h1,h2,h3,h4,e1,e2]
    omega
   ·have o:∀ i,N i=some b->N0 i=some b:=by
     intro i hi;rcases kinds i b hi with ⟨_,hv,_⟩|⟨_,hv,_⟩|⟨h0,_⟩
     . exact absurd hv g6
     . exact absurd hv ga
     . exact h0
    exact h.uniq i j b (o i hi) (o j hj)
 ·intro i b hb;rcases kinds i b hb with ⟨_,hv,g2,g3,_,_,hV⟩|⟨hT,hv,_,_,_,_,hV⟩|⟨h0,g0⟩
  . rw[hV,hv,(low _ g2).2.2,(low _ g3).2.2]
  . obtain⟨q,hq,_⟩:=hT;rw[m.ext i (.inr ⟨q,hq⟩),hV,hv]
  . rw[m.ext i (.inr ⟨b,h0⟩),(old i b b.lo h0 g0 (.inl rfl)).2.2,(old i b b.hi h0 g0 (.inr rfl)).2.2];exact h.eqn _ _ h0
end
open Go.RowKit Go.Shelf
structure TN where
 n:RN
 ll:Nat
 lh:Nat
 hl:Nat
 hh:Nat
variable {ts:List TN}
def tnV (t:TN):List Value:=rnV t.n++[.int .i64 t.ll,.int .i64 t.lh,.int .i64 t.hl,.int .i64 t.hh]
def tnOf (d:Ae)(y:Nat)(i:Nat):TN:=⟨d.pool.nd i,(cofs d (d.pool.nd i).lo y).1,(cofs d (d.pool.nd i).lo y).2,(cofs d (d.pool.nd i).hi y).1,(cofs d (d.pool.nd i).hi y).2⟩
def Cb (d:Ae)(y:Nat)(i:Nat):Bool:=decide ((tnOf d y i).ll≠(tnOf d y i).lh\/(tnOf d y i).hl≠(tnOf d y i).hh)
theorem Ls (hk:Ai d V)(e y:Nat):(cofs d e y).1≠(cofs d e y).2↔isV (Aa d) y e:=by
 unfold cofs isV;cases hb:Aa d (e/2) with
 | none=>simp
 | some b =>
   by_cases h:b.v=y
   ·have h1:(b.v:Int)=(y:Int):=by omega
    simp only[h1,XP];constructor
    . intro _;exact⟨b,rfl,h⟩
    . intro _;exact FX (hk.dag.ne _ _ hb)
   ·have h1:¬ (b.v:Int)=(y:Int):=by omega
    simp only[h1,if_false];constructor
    . intro hh;exact(hh rfl).elim
    . rintro⟨c,hc,hv⟩;cases hc;exact(h hv).elim
theorem IT (hk:Ai d V){b:BN}(hb:Aa d i=some b)(hx:b.v=x):Cb d y i=true↔Turns (Aa d) x y i:=by
 obtain⟨_,_,he⟩:=BA hb;have g0:bnOf (d.pool.nd i)=b:=by rw[<- (BA hb).2.1];exact he
 have e1:(d.pool.nd i).lo=b.lo:=by rw[<- g0];rfl
 have e2:(d.pool.nd i).hi=b.hi:=by rw[<- g0];rfl
 unfold Cb tnOf;rw[XD,e1,e2,Ls hk,Ls hk];constructor
 . intro h;exact⟨b,hb,hx,h⟩
 . rintro⟨c,hc,_,h⟩;rw[hb] at hc;cases hc;exact h
noncomputable def rkSw (n:Nat)(lev:Nat->Nat)(N0:Nat->Option BN)(x y:Nat)(N:Nat->Option BN)(i:Nat):Nat :=
 open Classical in if Turns N0 x y i then 2 * (n - lev x) else match N i with
  | none=>0
  | some b=>if b.v=x then 2*(n-lev x)-1 else 2*(n-lev b.v)
section
variable {lev:Nat->Nat}{N0:Nat->Option BN}{done:Nat->Prop}
theorem Gi (h:Turns N0 x y i):rkSw n lev N0 x y N i=2*(n-lev x):=by unfold rkSw;rw[WR h]
theorem Fg {b:BN}(h:¬ Turns N0 x y i)(hb:N i=some b)(hx:b.v=x):rkSw n lev N0 x y N i=2*(n-lev x)-1:=by unfold rkSw;rw[WO h,hb];simp[hx]
theorem Lt {b:BN}(h:¬ Turns N0 x y i)(hb:N i=some b)(hx:b.v≠x):rkSw n lev N0 x y N i=2*(n-lev b.v):=by unfold rkSw;rw[WO h,hb];simp[hx]
theorem IU {b:BN}(hb:N0 i=some b)(h:Turns N0 x y i):b.v=x:=by
 obtain⟨c,hc,hx,_⟩:=h;rw[hb] at hc;cases hc;exact hx
theorem IV (m:Bo n lev N0 V0 x y done N V){c0 c:BN}(h0:N0 (e/2)=some c0)(hc:N (e/2)=some c) :
 (Turns N0 x y (e/2)/\c0.v=x/\rkSw n lev N0 x y N (e/2)=2*(n-lev x))\/(¬ Turns N0 x y (e/2)/\c=c0/\rkSw n lev N0 x y N (e/2)<=2*(n-lev c0.v)/\(c0.v=x->rkSw n lev N0 x y N (e/2)=2*(n-lev x)-1)):=by
 by_cases hT:Turns N0 x y (e/2)
 . exact .inl ⟨hT,IU h0 hT,Gi hT⟩
 ·have hk:=m.keep _ _ h0 (fun hd=>hT (m.dn _ hd).1);rw[hc] at hk;cases hk;refine .inr ⟨hT,rfl,?_,fun hx=>Fg hT hc hx⟩
  by_cases hx:c0.v=x
  . rw[Fg hT hc hx,hx];omega
  . rw[Lt hT hc hx];exact WM _
theorem E4 (m:Bo n lev N0 V0 x y done N V)(h:okE N0 e):okE N e:=by
 rcases h with h|⟨c,hc⟩
 . exact .inl h
 . obtain⟨b,hb⟩:=m.has hc;exact .inr ⟨b,hb⟩
theorem Lu (m:Bo n lev N0 V0 x y done N V)(h:midE n lev N0 N x y e):okE N e:=by
 rcases h with h|⟨c,hc,_⟩
 . exact E4 m h.1
 . exact .inr ⟨c,hc⟩
theorem Fh {c:BN}(h:N0 (e/2)=some c):lvE n lev N0 e=lev c.v:=by unfold lvE;rw[h]
theorem Lv (h:Dag n lev N0 V0)(hx:x<n)(hl:lev y=lev x+1)(m:Bo n lev N0 V0 x y done N V){c:BN}(he:lowE n lev N0 y e)(hc:N (e/2)=some c):rkSw n lev N0 x y N (e/2)+3<=2*(n-lev x):=by
 have g1:=h.lt x hx;rcases he.1 with h0|⟨c0,g0⟩
 . rw[h0,m.n0] at hc;cases hc
 ·have h1:=he.2;rw[Fh g0] at h1;have h2:=h.lt _ (h.var _ _ g0);rcases IV m g0 hc with ⟨_,hv,_⟩|⟨_,_,h3,_⟩
  . rw[hv] at h1;omega
  . omega
theorem Lw (h:Dag n lev N0 V0)(hx:x<n)(hl:lev y=lev x+1)(m:Bo n lev N0 V0 x y done N V){c:BN}(he:midE n lev N0 N x y e)(hc:N (e/2)=some c):rkSw n lev N0 x y N (e/2)+1<=2*(n-lev x):=by
 have g1:=h.lt x hx;rcases he with he|⟨c',g0,hv,hT⟩
 . have:=Lv h hx hl m he hc;omega
 . rw[Fg hT g0 hv];omega
theorem Rr (h:Dag n lev N0 V0)(hx:x<n)(hl:lev y=lev x+1)(m:Bo n lev N0 V0 x y done N V):Acy N (rkSw n lev N0 x y N):=by
 have g6:=h.lt x hx;have edge:∀ i b e,N i=some b->(e=b.lo\/e=b.hi)->okE N e/\∀ c,N (e/2)=some c->rkSw n lev N0 x y N (e/2)<rkSw n lev N0 x y N i:=by
  intro i b e hb he;cases h0:N0 i with
  | none =>
    obtain⟨hv,h1,h2,_⟩:=m.fresh i b hb h0;have g2:lowE n lev N0 y e:=by rcases he with rfl|rfl;exact h1;exact h2
    have hT:¬ Turns N0 x y i:=fun⟨q,hq,_⟩=>by rw[h0] at hq;cases hq
    refine⟨E4 m g2.1,fun c hc=>?_⟩;have:=Lv h hx hl m g2 hc;rw[Fg hT hb hv];omega
  | some b0 =>
    by_cases hd:done i
    ·obtain⟨hT,b',g4,_,h1,h2,_⟩:=m.dn i hd;rw[hb] at g4;cases g4
     have hm:midE n lev N0 N x y e:=by rcases he with rfl|rfl;exact h1;exact h2
     refine⟨Lu m hm,fun c hc=>?_⟩;have:=Lw h hx hl m hm hc;rw[Gi hT];omega
    ·have hk:=m.keep i b0 h0 hd;rw[hb] at hk;cases hk
     have ho:okE N0 e:=by rcases he with rfl|rfl;exact h.okLo _ _ h0;exact h.okHi _ _ h0
     have g0:lev b.v<lvE n lev N0 e:=by rcases he with rfl|rfl;exact h.lvLo _ _ h0;exact h.lvHi _ _ h0
     refine⟨E4 m ho,fun c hc=>?_⟩;have g9:=h.lt _ (h.var _ _ h0);rcases ho with hz|⟨c0,g3⟩
     . rw[hz,m.n0] at hc;cases hc
     ·rw[Fh g3] at g0;have g8:=h.lt _ (h.var _ _ g3);have hi:(Turns N0 x y i/\rkSw n lev N0 x y N i=2*(n-lev x)/\b.v=x)\/(¬ Turns N0 x y i/\b.v=x/\rkSw n lev N0 x y N i=2*(n-lev x)-1)\/(¬ Turns N0 x y i/\b.v≠x/\rkSw n lev N0 x y N i=2*(n-lev b.v)):=by
       by_cases hT:Turns N0 x y i
       . exact .inl ⟨hT,Gi hT,IU h0 hT⟩
       ·by_cases g1:b.v=x
        . exact .inr (.inl ⟨hT,g1,Fg hT hb g1⟩)
        . exact .inr (.inr ⟨hT,g1,Lt hT hb g1⟩)
      rcases IV m g3 hc with ⟨_,g5,hr⟩|⟨_,_,hr,g7⟩
      ·rw[hr];rw[g5] at g0;rcases hi with ⟨_,_,hv⟩|⟨_,hv,_⟩|⟨_,_,h2⟩
       . rw[hv] at g0;omega
       . rw[hv] at g0;omega
       . rw[h2];omega
      ·rcases hi with ⟨_,h2,hv⟩|⟨_,hv,h2⟩|⟨_,hv,h2⟩
       . rw[h2];rw[hv] at g0;omega
       . rw[h2];rw[hv] at g0;omega
       . rw[h2];omega
 exact⟨m.n0,fun i b hb=>(edge i b _ hb (.inl rfl)).1,fun i b hb=>(edge i b _ hb (.inr rfl)).1,fun i b c hb hc=>(edge i b _ hb (.inl rfl)).2 c hc,fun i b c hb hc=>(edge i b _ hb (.inr rfl)).2 c hc⟩
end
abbrev Yp:=@List.nodup_cons
abbrev Zu:=@List.filter_cons
theorem Rs {α:Type}[DecidableEq α]{l:List α}(hn:l.Nodup){κ:α}(hk:κ∈l){p q:α->Bool}(hp:p κ=false)(hq:∀ a,q a=(p a||decide (a=κ))):(l.filter q).length=(l.filter p).length+1:=by
 induction l with
 | nil=>cases hk
 | cons a l ih =>
   rw[Yp] at hn;have g0:=hq a
   by_cases e:a=κ
   ·subst e;have g2:∀ b∈l,b≠a:=fun b hb e=>hn.1 (e ▸ hb)
    have hl:l.filter q=l.filter p:=List.filter_congr fun b hb=>by rw[hq b];simp[g2 b hb]
    simp only[Zu,g0,hp,hl];simp
   ·have g3:κ∈l:=by
     rcases XI.1 hk with h|h
     . exact(e h.symm).elim
     . exact h
    have:=ih hn.2 g3;have g1:q a=p a:=by rw[g0];simp[e]
    simp only[Zu,g1];split
    . simp[this]
    . exact this
structure A1 (d0:Ae)(V0:Nat->BF)(k x y:Nat)(Wt:List (Nat×Nat))(E:Nat->Int)(done:Nat->Prop)(d:Ae)(V:Nat->BF):Prop where
 mid:Bo d0.vars.length (levN d0) (Aa d0) V0 x y done (Aa d) V
 vars:d.vars=(AY d0 k).vars
 level:d.level=(AY d0 k).level
 room:d.pool.room=d0.pool.room
 ext:Ak d=Ak d0
 live:A7 d E
 tabO:∀ v,v<d0.vars.length->v≠x->∀ lo hi id,d.tab v (lo,hi)=some id↔Aa d id=some ⟨v,lo,hi⟩
 tabX:∀ lo hi id,d.tab x (lo,hi)=some id↔Aa d id=some ⟨x,lo,hi⟩/\¬ Turns (Aa d0) x y id
 clen:d.counts.length<=1048578
 pos:∀ i,Turns (Aa d0) x y i->0<Aj d i
 many:d.pool.many=d0.pool.many+(Wt.filter fun κ=>(d.tab x κ).isSome).length
section
variable {done:Nat->Prop}
theorem A1.has0 (m:A1 d0 V0 k x y Wt E done d V)(h:Aa d i=none):Aa d0 i=none:=by
 cases e:Aa d0 i with
 | none=>rfl
 | some c=>obtain⟨b',g0⟩:=m.mid.has e;rw[h] at g0;cases g0
theorem A1.add {id lo hi:Nat}(m:A1 d0 V0 k x y Wt (Ak d0) done d V)(r:DQ d d' id x lo hi)(hlo:lowE d0.vars.length (levN d0) (Aa d0) y lo)(hhi:lowE d0.vars.length (levN d0) (Aa d0) y hi)(hr:hi%2=0)(hne:lo≠hi)
 (ht:d.tab x (lo,hi)=none) (hW:(lo,hi)∈Wt) (hWn:Wt.Nodup):A1 d0 V0 k x y Wt (Ak d0) done d' (addV V id ⟨x,lo,hi⟩):=by
 have hid:id≠0:=by have:=r.pos;omega
 have g2:∀ i,¬ Turns (Aa d0) x y i->Aa d i≠some ⟨x,lo,hi⟩:=fun i hT e=>by rw[(m.tabX lo hi i).2 ⟨e,hT⟩] at ht;cases ht
 have g6:=m.mid.add r.none hid rfl hlo hhi hr hne g2;have h0:=m.has0 r.none;have g4:¬ Turns (Aa d0) x y id:=fun⟨q,hq,_⟩=>by rw[h0] at hq;cases hq
 have g3:Ak d'=Ak d0:=by
  rw[r.ext];funext i
  by_cases e:i=id
  . subst e;simp[Et h0]
  . simp only[WO e,m.ext]
 have g0:=r.live;rw[g3] at g0;refine⟨by rw[r.nodes];exact g6,r.vars.trans m.vars,r.level.trans m.level,r.room.trans m.room,g3,g0,fun v hv g1 lo' g5 i=>?_,fun lo' g5 i=>?_,r.clen,fun i hT=>?_,?_⟩
 ·rw[r.tab,r.nodes];dsimp only;rw[WO g1,m.tabO v hv g1]
  by_cases e4:i=id
  ·subst e4;rw[BQ,r.none];constructor
   . intro e5;cases e5
   . intro e5;cases e5;exact absurd rfl g1
  . rw[Bc _ e4]
 ·rw[r.tab,r.nodes];dsimp only;rw[WR rfl];unfold putF
  by_cases e2:(lo',g5)=(lo,hi)
  ·cases e2;rw[WR rfl];constructor
   . intro e3;cases e3;rw[BQ];exact⟨rfl,g4⟩
   ·rintro⟨e3,e5⟩
    by_cases e4:i=id
    . rw[e4]
    . rw[Bc _ e4] at e3;exact absurd e3 (g2 i e5)
  ·rw[WO e2,m.tabX]
   by_cases e4:i=id
   ·subst e4;rw[BQ,r.none];constructor
    . rintro⟨e5,_⟩;cases e5
    . rintro⟨e5,_⟩;cases e5;exact absurd rfl e2
   . rw[Bc _ e4]
 . rw[r.cnt];unfold setC;rw[WO (fun e=>g4 (by rw[<- e];exact hT))];exact m.pos i hT
 ·rw[r.many,m.many];have e1:(Wt.filter fun κ=>(d'.tab x κ).isSome).length=(Wt.filter fun κ=>(d.tab x κ).isSome).length+1:=by
   refine Rs hWn hW (by rw[ht];rfl) fun κ=>?_
   rw[r.tab];dsimp only;rw[WR rfl];unfold putF
   by_cases e:κ=(lo,hi)
   . simp[e]
   . simp[e]
  rw[e1];omega
theorem A1.counts {E':Nat->Int}{cs:List Nat}{dd mm:Nat}(m:A1 d0 V0 k x y Wt E done d V)(hl:A7 (d.cd cs dd) E')(hlen:cs.length=d.counts.length)(hsame:∀ i,mm<=rkSw d0.vars.length (levN d0) (Aa d0) x y (Aa d) i->cs.getD i 0=d.counts.getD i 0)(hm:mm<=2*(d0.vars.length-levN d0 x)) :
 A1 d0 V0 k x y Wt E' done (d.cd cs dd) V :=
 ⟨m.mid,m.vars,m.level,m.room,m.ext,hl,m.tabO,m.tabX,by show cs.length<=_;rw[hlen];exact m.clen,fun i hT=>by
  have:=hsame i (by rw[Gi hT];exact hm)
  show 0<cs.getD i 0
  rw[this];exact m.pos i hT,m.many⟩
theorem A1.fresh_y (m:A1 d0 V0 k x y Wt E done d V)(hk:Dag d0.vars.length (levN d0) (Aa d0) V0)(hxy:x≠y)(hy:y<d0.vars.length)(hT:Turns (Aa d0) x y i)(hd:¬ done i)(hV:V0 i=iteF y (ef V hi) (ef V lo)):d.tab y (lo,hi)=none:=by
 cases e:d.tab y (lo,hi) with
 | none=>rfl
 | some j =>
   exfalso;have hj:=(m.tabO y hy (X1 hxy) lo hi j).1 e;obtain⟨b,hb,g3,g6⟩:=hT;have same:∀ j',(∃ c,Aa d0 j'=some c)->V0 j'=V0 i->j'=i:=by
    rintro j' ⟨c,hc⟩ g4;have:=hk.canon (Dq hc) (Dq hb) (by funext ρ;simp only[ef];rw[show 2*j'/2=j' by omega,show 2*i/2=i by omega,g4,show 2*j'%2=0 by omega,show 2*i%2=0 by omega]);omega
   by_cases g0:done j
   . obtain⟨⟨q,hq,g5,_⟩,c,hc,_,_,_,_,_,g1⟩:=m.mid.dn j g0;rw[hj] at hc;cases hc;have:=same j ⟨q,hq⟩ (g1.trans hV.symm);rw[this] at g0;exact hd g0
   ·cases h0:Aa d0 j with
    | none =>
      have:=(m.mid.fresh j _ hj h0).1;exact hxy this.symm
    | some c =>
      have g2:=m.mid.keep j c h0 g0;rw[hj] at g2;cases g2;have g1:V0 j=iteF y (ef V0 hi) (ef V0 lo):=hk.eqn _ _ h0;have e1:=BC m.mid.ext (hk.okLo _ _ h0);have e2:=BC m.mid.ext (hk.okHi _ _ h0);dsimp only at e1 e2;rw[<- e1,<- e2] at g1;have:=same j ⟨_,h0⟩ (g1.trans hV.symm);subst this;rw[hb] at h0;cases h0;exact hxy g3.symm
end
theorem Lx {v:Nat}(h:V id=iteF v (ef V (eflip hi (eneg hi))) (ef V (eflip lo (eneg hi)))):ef V (eflip (2*id) (eneg hi))=iteF v (ef V hi) (ef V lo):=by
 funext ρ;rw[Cu];have e0:ef V (2*id) ρ=V id ρ:=by unfold ef;rw[show 2*id/2=id by omega,show 2*id%2=0 by omega];simp
 rw[e0,h];unfold iteF;split<;>rw[Cu]<;>cases eneg hi<;>simp
section
variable {done:Nat->Prop}
theorem A1.valX (m:A1 d0 V0 k x y Wt E done d V)(hk:Dag d0.vars.length (levN d0) (Aa d0) V0){a:Nat}(hb:Aa d id=some ⟨x,a,b⟩)(hT:¬ Turns (Aa d0) x y id)(ha:lowE d0.vars.length (levN d0) (Aa d0) y a)(hbb:lowE d0.vars.length (levN d0) (Aa d0) y b):V id=iteF x (ef V b) (ef V a):=by
 have e1:=BC m.mid.ext ha.1;have e2:=BC m.mid.ext hbb.1;rw[e1,e2];cases h0:Aa d0 id with
 | none=>exact(m.mid.fresh id _ hb h0).2.2.2.2.2
 | some c =>
   have g0:=m.mid.keep id c h0 (fun hd=>hT (m.mid.dn _ hd).1);rw[hb] at g0;cases g0;rw[m.mid.ext id (.inr ⟨_,h0⟩)];exact hk.eqn _ _ h0
theorem D9 {lev:Nat->Nat}{b:Bool}(h:lowE n lev N y e):lowE n lev N y (eflip e b):=⟨Dc h.1,by rw[D5];exact h.2⟩
def bkey (lo hi:Nat):Nat×Nat:=(eflip lo (eneg hi),eflip hi (eneg hi))
structure C0 (d0:Ae)(V0:Nat->BF)(k x y:Nat)(Wt:List (Nat×Nat))(done:Nat->Prop)(d:Ae)(V:Nat->BF)(lo hi:Nat)(r:Nat)(d':Ae)(V':Nat->BF):Prop where
 mid:A1 d0 V0 k x y Wt (Ak d0) done d' V'
 edge:midE d0.vars.length (levN d0) (Aa d0) (Aa d') x y r
 val:ef V' r=iteF x (ef V0 hi) (ef V0 lo)
 reg:hi%2=0->r%2=0
 keep:∀ e,midE d0.vars.length (levN d0) (Aa d0) (Aa d) x y e->midE d0.vars.length (levN d0) (Aa d0) (Aa d') x y e/\ef V' e=ef V e
theorem Ly (id:Nat)(hi:Nat)(h:hi%2=0):eflip (2*id) (eneg hi)%2=0:=by
 unfold eneg eflip;have:(hi%2 == 1)=false:=by rw[h];rfl
 rw[this];simp
theorem Rt (m:A1 d0 V0 k x y Wt (Ak d0) done d V)(hlo:lowE d0.vars.length (levN d0) (Aa d0) y lo):C0 d0 V0 k x y Wt done d V lo lo lo d V :=
 ⟨m,.inl hlo,by rw[BC m.mid.ext hlo.1];funext ρ;unfold iteF;split<;>rfl,fun h=>h,fun e he=>⟨he,rfl⟩⟩
theorem Ru (m:A1 d0 V0 k x y Wt (Ak d0) done d V)(hk:Dag d0.vars.length (levN d0) (Aa d0) V0)(hlo:lowE d0.vars.length (levN d0) (Aa d0) y lo)(hhi:lowE d0.vars.length (levN d0) (Aa d0) y hi)(ht:d.tab x (bkey lo hi)=some id) :
 C0 d0 V0 k x y Wt done d V lo hi (eflip (2*id) (eneg hi)) d V:=by
 obtain⟨hb,hT⟩:=(m.tabX _ _ id).1 ht;refine⟨m,.inr ⟨_,by rw[Db,show 2*id/2=id by omega];exact hb,rfl,by rw[Db,show 2*id/2=id by omega];exact hT⟩,?_,Ly id hi,fun e he=>⟨he,rfl⟩⟩;rw[Lx (m.valX hk hb hT (D9 hlo) (D9 hhi)),BC m.mid.ext hlo.1,BC m.mid.ext hhi.1]
theorem Rv (m:A1 d0 V0 k x y Wt (Ak d0) done d V)(hk:Dag d0.vars.length (levN d0) (Aa d0) V0)(hlo:lowE d0.vars.length (levN d0) (Aa d0) y lo)(hhi:lowE d0.vars.length (levN d0) (Aa d0) y hi)(hne:lo≠hi)
 (ht:d.tab x (bkey lo hi)=none) (r:DQ d d' id x (bkey lo hi).1 (bkey lo hi).2) (hW:bkey lo hi∈Wt) (hWn:Wt.Nodup) :
 C0 d0 V0 k x y Wt done d V lo hi (eflip (2*id) (eneg hi)) d' (addV V id ⟨x,(bkey lo hi).1,(bkey lo hi).2⟩):=by
 have hid:id≠0:=by have:=r.pos;omega
 have m':=m.add r (D9 hlo) (D9 hhi) (KI hi) (FX hne) ht hW hWn;have hT:¬ Turns (Aa d0) x y id:=fun⟨q,hq,_⟩=>by rw[m.has0 r.none] at hq;cases hq
 have hb:Aa d' id=some ⟨x,(bkey lo hi).1,(bkey lo hi).2⟩:=by rw[r.nodes,BQ]
 refine⟨m',.inr ⟨_,by rw[Db,show 2*id/2=id by omega];exact hb,rfl,by rw[Db,show 2*id/2=id by omega];exact hT⟩,?_,Ly id hi,fun e he=>?_⟩
 . rw[Lx (m'.valX hk hb hT (D9 hlo) (D9 hhi)),BC m'.mid.ext hlo.1,BC m'.mid.ext hhi.1]
 ·rcases he with he|⟨c,hc,g1,g2⟩
  . exact⟨.inl he,by rw[BC m'.mid.ext he.1,BC m.mid.ext he.1]⟩
  ·have g0:e/2≠id:=by rintro e';rw[e',r.none] at hc;cases hc
   refine⟨.inr ⟨c,by rw[r.nodes,Bc _ g0];exact hc,g1,g2⟩,?_⟩;funext ρ;simp only[ef,addV,WO g0]
theorem A1.fits (m:A1 d0 V0 k x y Wt E done d V){κ:Nat×Nat}(hW:κ∈Wt)(ht:d.tab x κ=none)(hroom:d0.pool.many+Wt.length<=d0.pool.room):d.pool.many<d.pool.room:=by
 have h1:(Wt.filter fun κ=>(d.tab x κ).isSome).length<Wt.length:=by
  rw[<- Nat.not_le];intro g0;have h2:=XG (fun κ=>(d.tab x κ).isSome) Wt;have h3:=List.length_filter_eq_length_iff.1 (Nat.le_antisymm h2 g0);have:=h3 κ hW;rw[ht] at this;cases this
 rw[m.many,m.room];omega
end
theorem Lz {done:Nat->Prop}{o:Own}(h:Ay o w sb d)(hlt:Ab o w)(m:A1 d0 V0 k x y Wt (Ak d0) done d V)
 (hk:Dag d0.vars.length (levN d0) (Aa d0) V0) (hacy:Acy (Aa d) (rkSw d0.vars.length (levN d0) (Aa d0) x y (Aa d))) (hx:x<d0.vars.length) (hvl:d.vars.length=d0.vars.length) (lo hi:Nat) (hlo:lowE d0.vars.length (levN d0) (Aa d0) y lo) (hhi:lowE d0.vars.length (levN d0) (Aa d0) y hi)
 (hkey:lo≠hi->d.tab x (bkey lo hi)=none->bkey lo hi∈Wt) (hWn:Wt.Nodup) (hroom:d0.pool.many+Wt.length<=d0.pool.room) :
 Calls prog 192 #[Pt sb,.int .i64 x,.int .i64 lo,.int .i64 hi] w fun e w'=>∃ r:Nat,e=.returned (.int .i64 r)/\∃ o' d' V',Ay o' w' sb d'/\Ab o' w'/\C0 d0 V0 k x y Wt done d V lo hi r d' V'/\d'.vars.length=d0.vars.length/\Chg Al o o' w w':=by
 obtain⟨s,h⟩:=h;have okL:=E4 m.mid hlo.1;have okH:=E4 m.mid hhi.1;have g9:=h.edge_lt okL;have ga:=h.edge_lt okH;have g4:lo<eMax:=by unfold eMax;omega
 have g6:hi<eMax:=by unfold eMax;omega
 by_cases g8:lo=hi
 ·subst g8;have HF:Hq (∃ r:Nat,Ending.returned (.int .i64 (lo:Nat))=.returned (.int .i64 r)/\∃ o' d' V',Ay o' w sb d'/\Ab o' w/\C0 d0 V0 k x y Wt done d V lo lo r d' V'/\d'.vars.length=d0.vars.length/\Chg Al o o' w w):=Hd ⟨lo,rfl,o,d,V,⟨s,h⟩,hlt,Rt m hlo,hvl,Chg.refl _ _ _⟩;clear h hlt m hk hacy hlo hhi hkey g4 g6 g9 ga okL okH
  delta Pt;go_enter func192,ntmps192
  go_wp2_with fail;go_ret;exact HF.o
 have go:((lo:Int) == hi)=false:=by simp;omega
 have hv:x<d.vars.length:=by rw[hvl];exact hx
 have g1:=Hd (fun W=>GW lo hi W g4 g6);have gb:=Hd (h.tab x (by rw[h.tlen];exact hv));obtain⟨gt,ct,gf,gk,gn,gq⟩:=h.tabAt hv;obtain⟨c0,c1,c2,c3,c4,f0⟩:=cells5 h.blk;rw[gf] at c2;obtain⟨t,ht⟩:=Ex (s.ts.getD x 0);rw[<- ht] at gk gb;have gp:(x:Int)<s.ts.length:=by omega
 obtain⟨lo2,g5⟩:∃ q,q=eflip lo (eneg hi):=⟨_,rfl⟩;obtain⟨g3,g7⟩:∃ q,q=eflip hi (eneg hi):=⟨_,rfl⟩;obtain⟨ng,gd⟩:∃ q,q=eneg hi:=⟨_,rfl⟩;have g2:bkey lo hi=(lo2,g3):=by unfold bkey;rw[g5,g7]
 rw[<- g5,<- g7] at g1;cases g0:d.tab x (lo2,g3) with
 | some id =>
   have gh:=Hd (fun W (hb:Bw w W)=>Ip o x t (d.tab x) lo2 g3 id W (gb.o.below hb hlt) g0);have gc:=((m.tabX _ _ id).1 g0).1;have gg:=(h.tk_lt gc).2;have ge:=Hd (fun W=>GX id (eneg hi) W (by omega));have HF:Hq (∀ W,Bw w W->∃ r:Nat,Ending.returned (.int .i64 (eflip (2*id) (eneg hi):Nat))=.returned (.int .i64 r)/\∃ o' d' V',Ay o' W sb d'/\Ab o' W/\C0 d0 V0 k x y Wt done d V lo hi r d' V'/\d'.vars.length=d0.vars.length/\Chg Al o o' w W) :=
    Hd fun W hb=>⟨_,rfl,o,d,V,⟨s,h.below hlt hb⟩,hlt.mono hb.size,Ru m hk hlo hhi (by rw[g2];exact g0),hvl,Chg.of_below hb _ _⟩
   rw[<- gd] at g1 ge HF;clear h hlt m hk hacy hlo hhi hkey g4 g6 g9 ga okL okH g0 gc gg g5 g7 gd g2 hv g8 hvl ht gf
   delta Pt;go_enter func192,ntmps192
   go_wp2_with fail;refine(g1.o _).mono ?_;rintro e w' ⟨rfl,rfl⟩;go_wp2_with fail;refine(gh.o _ (Xd _ _)).mono ?_;rintro e w' ⟨rfl,rfl⟩;go_wp2_with fail;refine(ge.o _).mono ?_;rintro e w' ⟨rfl,rfl⟩;go_wp2_with fail;go_ret;exact HF.o _ (Xd _ _)
 | none =>
   have gh:=Hd (Iq o x t (d.tab x) lo2 g3 w gb.o g0);have hW:bkey lo hi∈Wt:=hkey g8 (by rw[g2];exact g0);have gl:=Hd (KG h hlt (by rw[m.ext];exact m.live) (fun i b hb=>⟨hacy.okLo i b hb,hacy.okHi i b hb⟩) x lo2 g3 hv g0 m.clen);have gi:Hq (d.pool.many≠d.pool.room):=Hd fun e=>by have:=m.fits hW (by rw[g2];exact g0) hroom;omega
   have HF:Hq (∀ id d' o' W,Ay o' W sb d'->Ab o' W->DQ d d' id x lo2 g3->Chg Al o o' w W->∃ r:Nat,Ending.returned (.int .i64 (eflip (2*id) (eneg hi):Nat))=.returned (.int .i64 r)/\∃ o' d' V',Ay o' W sb d'/\Ab o' W/\C0 d0 V0 k x y Wt done d V lo hi r d' V'/\d'.vars.length=d0.vars.length/\Chg Al o o' w W):=by
    refine Hd fun id d' o' W h1 h2 h3 h4=>⟨_,rfl,o',d',_,h1,h2,Rv m hk hlo hhi g8 (by rw[g2];exact g0) (by rw[g2];exact h3) hW hWn,by rw[h3.vars];exact hvl,h4⟩
   rw[<- gd] at g1 HF;clear h hlt m hk hacy hlo hhi hkey g4 g6 g9 ga okL okH g0 g5 g7 g2 hv g8 hvl ht gf hW gd
   delta Pt;go_enter func192,ntmps192
   go_wp2_with fail;refine(g1.o _).mono ?_;rintro e w' ⟨rfl,rfl⟩;go_wp2_with fail;refine gh.o.mono ?_;rintro e w' ⟨rfl,rfl⟩;go_wp2_with fail;refine gl.o.mono ?_;rintro e w6 (⟨hm,rfl,gr⟩|⟨id,d',o',rfl,hs,gj,hr,hc⟩)
   . exact(gi.o hm).elim
   ·have gg:id<1048578:=by
     obtain⟨s',hs'⟩:=hs;have hn:Aa d' id=some ⟨x,lo2,g3⟩:=by rw[hr.nodes,BQ]
     have:=hs'.tk_lt hn;omega
    have ge:=Hd (GX id ng w6 (by omega));have gm:=Hd (HF.o id d' o' w6 hs gj hr hc);clear hs gj hr hc c0 c1 c2 c3 c4 f0 gk;go_wp2_with fail;refine ge.o.mono ?_;rintro e w' ⟨rfl,rfl⟩;go_wp2_with fail;go_ret;exact gm.o
section
variable {done:Nat->Prop}
structure IW (d0:Ae)(V0:Nat->BF)(x y i ll lh hl hh:Nat):Prop where
 f1:lowE d0.vars.length (levN d0) (Aa d0) y ll
 f2:lowE d0.vars.length (levN d0) (Aa d0) y lh
 f3:lowE d0.vars.length (levN d0) (Aa d0) y hl
 f4:lowE d0.vars.length (levN d0) (Aa d0) y hh
 val:∀ ρ,V0 i ρ=if ρ x then (if ρ y then ef V0 hh ρ else ef V0 hl ρ) else (if ρ y then ef V0 lh ρ else ef V0 ll ρ)
 reg:hh%2=0
theorem Rw (hk:Ai d0 V0)(hy:y<d0.vars.length)(hl:levN d0 y=levN d0 x+1){b:BN}(hb:Aa d0 i=some b)(hbx:b.v=x) :
 IW d0 V0 x y i (cofs d0 b.lo y).1 (cofs d0 b.lo y).2 (cofs d0 b.hi y).1 (cofs d0 b.hi y).2:=by
 have l1:=hk.dag.lvLo _ _ hb;have l2:=hk.dag.lvHi _ _ hb;rw[hbx] at l1 l2;obtain⟨a1,a2,a3,a4,a5⟩:=Bk hk (hk.dag.okLo _ _ hb) hy (by omega);obtain⟨c1,c2,c3,c4,c5⟩:=Bk hk (hk.dag.okHi _ _ hb) hy (by omega);refine⟨⟨a1,a3⟩,⟨a2,a4⟩,⟨c1,c3⟩,⟨c2,c4⟩,fun ρ=>?_,?_⟩
 . rw[hk.dag.eqn _ _ hb,hbx];unfold iteF;rw[a5 ρ,c5 ρ]
 ·have hr:=hk.dag.reg _ _ hb;unfold cofs;cases hc:Aa d0 (b.hi/2) with
  | none=>exact hr
  | some c =>
    dsimp only;split
    ·have:eneg b.hi=false:=by unfold eneg;rw[hr];rfl
     dsimp only;rw[this];exact hk.dag.reg _ _ hc
    . exact hr
theorem Rx (hk:Ai d0 V0)(hx:x<d0.vars.length)(hy:y<d0.vars.length)(hxy:x≠y)(hl:levN d0 y=levN d0 x+1){ll lh hl' hh:Nat}(t:IW d0 V0 x y i ll lh hl' hh)(hne:ll≠lh\/hl'≠hh)
 (h1:ef V lo=iteF x (ef V0 hl') (ef V0 ll)) (h2:ef V hi=iteF x (ef V0 hh) (ef V0 lh)):V0 i=iteF y (ef V hi) (ef V lo)/\lo≠hi:=by
 constructor
 . funext ρ;rw[t.val ρ,h1,h2];unfold iteF;cases ρ x<;>cases ρ y<;>rfl
 ·rintro rfl;rw[h1] at h2;have ind:∀ {e:Nat},lowE d0.vars.length (levN d0) (Aa d0) y e->∀ (ρ:Nat->Bool) (b:Bool),ef V0 e (upd ρ x b)=ef V0 e ρ:=fun he ρ b=>hk.dag.indep_var he.1 (by have:=he.2;omega) ρ b
  have e1:ef V0 hl'=ef V0 hh:=by
   funext ρ;have:=congrFun h2 (upd ρ x true);unfold iteF at this;rw[CL,ind t.f3,ind t.f4] at this;simpa using this
  have e2:ef V0 ll=ef V0 lh:=by
   funext ρ;have:=congrFun h2 (upd ρ x false);unfold iteF at this;rw[CL,ind t.f1,ind t.f2] at this;simpa using this
  rcases hne with h|h
  . exact h (hk.dag.canon t.f1.1 t.f2.1 e2)
  . exact h (hk.dag.canon t.f3.1 t.f4.1 e1)
theorem Ry {kk:Nat}{c:Nat->Nat}{b b':BN}(hb:N i=some b):AW kk (setN N i b') c=AW kk N c:=by
 unfold AW;refine Bs _ fun j _=>?_
 unfold dead1 setN
 by_cases e:j=i
 . subst e;rw[WR rfl,hb]
 . rw[WO e]
theorem A1.set {b:BN}{p':Ad}(m:A1 d0 V0 k x y Wt E done d V)(hxy:x≠y)(hk:Dag d0.vars.length (levN d0) (Aa d0) V0)(hy:y<d0.vars.length)(hT:Turns (Aa d0) x y i)(hd:¬ done i)(hb:Aa d0 i=some b)
 (hlo:midE d0.vars.length (levN d0) (Aa d0) (Aa d) x y lo) (hhi:midE d0.vars.length (levN d0) (Aa d0) (Aa d) x y hi) (hr:hi%2=0) (hne:lo≠hi) (hV:V0 i=iteF y (ef V hi) (ef V lo))
 (hn:Aa { d with pool:=p' }=setN (Aa d) i ⟨y,lo,hi⟩) (he:Ak { d with pool:=p' }=Ak d) (h1:p'.room=d.pool.room) (h2:p'.many=d.pool.many) (h3:p'.at_.length=d.pool.at_.length) :
 A1 d0 V0 k x y Wt (addE (addE (addE (addE E b.lo 1) b.hi 1) lo (-1)) hi (-1)) (fun j=>done j\/j=i) { d with pool:=p',tab:=fun u=>if u=y then putF (d.tab u) (lo,hi) (some i) else d.tab u } V:=by
 have g5:=m.fresh_y hk hxy hy hT hd hV;have g1:Aa d i=some b:=m.mid.keep i b hb hd;have g4:b.v=x:=IU hb hT;have g0:Aa { d with pool:=p',tab:=fun u=>if u=y then putF (d.tab u) (lo,hi) (some i) else d.tab u }=setN (Aa d) i ⟨y,lo,hi⟩:=hn;refine⟨by rw[g0];exact m.mid.turn hxy hT hlo hhi hr hne hV,m.vars,m.level,h1.trans m.room,he.trans m.ext,⟨?_,?_,fun j c hc=>?_⟩,fun v hv g2 lo' g3 j=>?_,fun lo' g3 j=>?_,m.clen,m.pos,?_⟩
 ·show Cnt p'.at_.length _ (Aj d) _
  rw[g0,h3];exact m.live.cnt.setLive g1 (m.pos i hT)
 ·show (d.dead:Int)=AW p'.at_.length _ (Aj d)
  rw[g0,h3,Ry g1];exact m.live.dead
 ·rw[g0] at hc
  show j<d.counts.length
  unfold setN at hc;split at hc
  . rename_i e;rw[e];exact m.live.has i b g1
  . exact m.live.has j c hc
 ·rw[g0];dsimp only
  by_cases e:v=y
  ·subst e;rw[WR rfl];unfold putF
   by_cases e2:(lo',g3)=(lo,hi)
   ·cases e2;rw[WR rfl];constructor
    . intro e3;cases e3;simp[setN]
    ·intro e3;unfold setN at e3;split at e3
     . rename_i e4;rw[e4]
     . have:=(m.tabO v hv g2 _ _ j).2 e3;rw[g5] at this;cases this
   ·rw[WO e2,m.tabO v hv g2];unfold setN
    by_cases e4:j=i
    ·subst e4;rw[WR rfl,g1];constructor
     . intro e5;cases e5;exact absurd g4 (X1 hxy)
     . intro e5;cases e5;exact absurd rfl e2
    . rw[WO e4]
  ·rw[WO e,m.tabO v hv g2];unfold setN
   by_cases e4:j=i
   ·subst e4;rw[WR rfl,g1];constructor
    . intro e5;cases e5;exact absurd g4 g2
    . intro e5;cases e5;exact absurd rfl e
   . rw[WO e4]
 ·rw[g0];dsimp only;rw[WO hxy,m.tabX];unfold setN
  by_cases e4:j=i
  ·subst e4;rw[WR rfl];constructor
   . rintro⟨_,h⟩;exact(h hT).elim
   . rintro⟨_,h⟩;exact(h hT).elim
  . rw[WO e4]
 ·show p'.many=_
  rw[h2,m.many];dsimp only;rw[WO hxy]
end
structure TRow (w:Wd)(base:Nat)(v:Value)(ts:List TN):Prop where
 small:ts.length<=1048578
 ex:∃ a c,v=.slice a ts.length c/\∀ k,∀ hk:k<ts.length,∃ g,a=some ⟨g,0,none⟩/\base<=g/\∀ j u,(tnV ts[k])[j]?=some u->w.cell? ⟨g,k*9+j,none⟩=some u
theorem TRow.keep {base:Nat}(h:TRow w base v ts)(hk:∀ g,base<=g->g<w.heap.size->v.ownBlock=some g->w'.heap[g]?=w.heap[g]?):TRow w' base v ts:=by
 obtain⟨a,c,rfl,h1⟩:=h.ex;refine⟨h.small,a,c,rfl,fun k g0=>?_⟩;obtain⟨g,rfl,hb,hc⟩:=h1 k g0;refine⟨g,rfl,hb,fun j u hu=>?_⟩;have:=hc j u hu;exact(Co this (hk g hb (Ag this) rfl))
theorem TRow.below {base:Nat}(h:TRow w base v ts)(hb:Bw w w'):TRow w' base v ts:=h.keep fun g _ hg _=>hb.block g hg
def Bv (t:TN):List (Nat×Nat):=[(t.ll,t.hl),(t.lh,t.hh)]
structure BD (f:Nat×Nat->Option Nat)(ps:List (Nat×Nat))(Wt:List (Nat×Nat)):Prop where
 nodup:Wt.Nodup
 free:∀ κ∈Wt,f κ=none
 has:∀ p∈ps,p.1≠p.2->f (bkey p.1 p.2)=none->bkey p.1 p.2∈Wt
 len:Wt.length<=ps.length
theorem BD.skip {f:Nat×Nat->Option Nat}(h:BD f ps Wt){p:Nat×Nat}(hp:p.1≠p.2->f (bkey p.1 p.2)=none->bkey p.1 p.2∈Wt):BD f (ps++[p]) Wt :=
 ⟨h.nodup,h.free,fun q hq=>by
  rcases Xa.1 hq with hq|hq
  . exact h.has q hq
  . simp only[Xg] at hq;subst hq;exact hp,by have:=h.len;simp;omega⟩
abbrev Yb:=@List.mem_append_left
theorem BD.add {f:Nat×Nat->Option Nat}(h:BD f ps Wt){p:Nat×Nat}(h1:f (bkey p.1 p.2)=none)(h2:bkey p.1 p.2∉Wt):BD f (ps++[p]) (Wt++[bkey p.1 p.2]) :=
 ⟨X5.2 ⟨h.nodup,by simp,fun a ha b hb=>by simp only[Xg] at hb;subst hb;rintro rfl;exact h2 ha⟩,fun κ hκ=>by
  rcases Xa.1 hκ with hκ|hκ
  . exact h.free κ hκ
  . simp only[Xg] at hκ;subst hκ;exact h1,fun q hq h3 h4=>by
  rcases Xa.1 hq with hq|hq
  . exact Yb _ (h.has q hq h3 h4)
  . simp only[Xg] at hq;subst hq;simp,by have:=h.len;simp;omega⟩
def CC (Wt:List (Nat×Nat)):List ((Nat×Nat)×Value):=Wt.map fun κ=>(κ,.bool true)
theorem IX (κ:Nat×Nat):∀ (Wt:List (Nat×Nat)) (i:Nat),(A8 κ (CC Wt) i).map (·.2)=if κ∈Wt then some (.bool true) else none
 | [],_=>rfl
 | a::l,i=>by
   show (if a=κ then some (i,Value.bool true) else A8 κ (CC l) (i+1)).map (·.2)=_
   by_cases e:a=κ
   . rw[WR e];simp[e]
   . rw[WO e,IX κ l (i+1)];simp[X1 e]
theorem Rz (Wt:List (Nat×Nat))(κ:Nat×Nat):(getL (CC Wt) κ).getD (.bool false)=.bool (decide (κ∈Wt)):=by
 unfold getL;rw[IX]
 by_cases h:κ∈Wt
 . rw[WR h,XA h];rfl
 . rw[WO h,X8 h];rfl
theorem R3 {κ:Nat×Nat}(h:κ∉Wt):putL κ (.bool true) (CC Wt)=CC (Wt++[κ]):=by
 have h1:=IX κ Wt 0;rw[WO h] at h1;unfold putL;cases e:A8 κ (CC Wt) 0 with
 | none=>simp[CC]
 | some p=>rw[e] at h1;cases h1
theorem R4 {o:Own}(h:Ao o w sb d s)(hlt:Ab o w)(x:Nat)(hx:x<d.vars.length){base:Nat}(hr:TRow w base v ts)(hok:∀ t∈ts,t.ll<eMax/\t.lh<eMax/\t.hl<eMax/\t.hh<eMax) :
 Calls prog 187 #[Pt sb,.int .i64 x,v] w fun e w'=>∃ Wt,e=.returned (.int .i64 (Wt:List (Nat×Nat)).length)/\BD (d.tab x) (ts.flatMap Bv) Wt/\Bw w w':=by
 obtain⟨a,c,rfl,gf⟩:=hr.ex;have hw:=hr.small;have HR:=Hd hr;obtain⟨gt,ct,gF,gA,ho,hv⟩:=h.tabAt hx;obtain⟨c0,c1,c2,c3,c4,f0⟩:=cells5 h.blk;rw[gF] at c2;have gD:=Hd (h.tab x (by rw[h.tlen];exact hx));have he:=Hd hlt;obtain⟨t,ht⟩:=Ex (s.ts.getD x 0);rw[<- ht] at gA gD;have hp:(x:Int)<s.ts.length:=by omega
 have hg:=Hd gf;have h9:Hq (∀ k,∀ hk:k<ts.length,ts[k].ll<eMax/\ts[k].lh<eMax/\ts[k].hl<eMax/\ts[k].hh<eMax):=Hd fun k hk=>hok _ (Xp hk)
 clear h hlt hr ht gF gf hok c0 c1 c3 c4 f0;have h0:=DO (P:=prog) w 282;obtain⟨w1,ge⟩:=Ex (w.alloc (.map #[] 0));have hd:Hq (Ar w1 w.heap.size encE (CC [])):=by rw[ge];exact Hd (En w encE)
 have hn:Hq (Bw w w1):=by rw[ge];exact Hd (Af _ _)
 have hs1:w1.heap.size=w.heap.size+1:=by rw[ge];simp
 rw[<- ge] at h0;clear ge
 delta Pt;go_enter func187,ntmps187
 go_wp2_with fail
 go_loopw [8,22] (fun s8 s22 wr=>∃ (k:Nat) (Wt:List (Nat×Nat)),k<=ts.length/\s22=.int .i64 k/\s8=.int .i64 Wt.length/\Bw w wr/\w1.heap.size<=wr.heap.size/\Ar wr w.heap.size encE (CC Wt)/\Hq (BD (d.tab x) ((ts.take k).flatMap Bv) Wt)) (fun _ s22 _=>ts.length-(intOf s22).toNat)
 case atStart=>exact⟨0,[],WX _,rfl,rfl,hn.o,WM _,hd.o,Hd ⟨List.nodup_nil,fun _ h=>by simp at h,fun _ h=>by simp at h,WM _⟩⟩
 case round =>
  obtain⟨k,Wt,hk,rfl,rfl,g4,gX,g3,HW⟩:=hrel;have gb:=Hd g4;have gE:=Hd g3;clear g4 g3
  by_cases hlt:k<ts.length
  ·obtain⟨g,rfl,hz,hc⟩:=hg.o k hlt;obtain⟨ok1,ok2,ok3,ok4⟩:=h9.o k hlt
   have gC:Hq ((ts.take (k+1)).flatMap Bv=(ts.take k).flatMap Bv++[(ts[k].ll,ts[k].hl),(ts[k].lh,ts[k].hh)]):=Hd (by
    rw[WZ hlt,YC];rfl)
   have g2:=gb.o;obtain⟨tn,gG⟩:=Ex (ts[k]);rw[<- gG] at hc ok1 ok2 ok3 ok4 gC;obtain⟨⟨i0,i1,i2,i3,i4⟩,ll,lh,hl,hh⟩:=tn;have e0:=(g2.cell (p:=⟨g,k*9,none⟩) (Ag (hc 0 _ rfl))).trans (hc 0 _ rfl);have e1:=(g2.cell (p:=⟨g,k*9+1,none⟩) (Ag (hc 1 _ rfl))).trans (hc 1 _ rfl);have e2:=(g2.cell (p:=⟨g,k*9+2,none⟩) (Ag (hc 2 _ rfl))).trans (hc 2 _ rfl);have e3:=(g2.cell (p:=⟨g,k*9+3,none⟩) (Ag (hc 3 _ rfl))).trans (hc 3 _ rfl);have e4:=(g2.cell (p:=⟨g,k*9+4,none⟩) (Ag (hc 4 _ rfl))).trans (hc 4 _ rfl);have e5:=(g2.cell (p:=⟨g,k*9+5,none⟩) (Ag (hc 5 _ rfl))).trans (hc 5 _ rfl);have e6:=(g2.cell (p:=⟨g,k*9+6,none⟩) (Ag (hc 6 _ rfl))).trans (hc 6 _ rfl);have e7:=(g2.cell (p:=⟨g,k*9+7,none⟩) (Ag (hc 7 _ rfl))).trans (hc 7 _ rfl);have e8:=(g2.cell (p:=⟨g,k*9+8,none⟩) (Ag (hc 8 _ rfl))).trans (hc 8 _ rfl);dsimp only at ok1 ok2 ok3 ok4 gC;have h4:(k:Int)<ts.length:=by omega
   clear hc g2 gG;go_upto_region 7 with fail;obtain⟨wi,gp⟩:=Ex ((wr.alloc (.cells #[.int .i64 i0,.int .i64 i1,.int .i64 i2,.int .i64 i3,.int .i64 i4,.int .i64 ll,.int .i64 lh,.int .i64 hl,.int .i64 hh] 270)).alloc (.cells #[.int .i64 ll,.int .i64 hl,.int .i64 lh,.int .i64 hh] 257));rw[<- gp];have gs:Bw wr wi:=by rw[gp];exact(Af _ _).alloc (by simp) _
   have g0:wi.heap[wr.heap.size+1]?=some (.cells #[.int .i64 ll,.int .i64 hl,.int .i64 lh,.int .i64 hh] 257 (0,0)):=by
    rw[gp];have:=WN (wr.alloc (.cells #[.int .i64 i0,.int .i64 i1,.int .i64 i2,.int .i64 i3,.int .i64 i4,.int .i64 ll,.int .i64 lh,.int .i64 hl,.int .i64 hh] 270)) (.cells #[.int .i64 ll,.int .i64 hl,.int .i64 lh,.int .i64 hh] 257);rw[WV] at this;exact this
   have HP:Hq (∀ j,j<2->∃ p1 p2:Nat,wi.cell? ⟨wr.heap.size+1,j*2,none⟩=some (.int .i64 p1)/\wi.cell? ⟨wr.heap.size+1,j*2+1,none⟩=some (.int .i64 p2)/\p1<eMax/\p2<eMax/\[(ll,hl),(lh,hh)].take (j+1)=[(ll,hl),(lh,hh)].take j++[(p1,p2)]):=by
    refine Hd fun j hj=>?_
    rcases(by omega:j=0\/j=1) with rfl|rfl
    . exact⟨ll,hl,by rw[WQ _ _ _ _ _ _ g0];rfl,by rw[WQ _ _ _ _ _ _ g0];rfl,ok1,ok3,rfl⟩
    . exact⟨lh,hh,by rw[WQ _ _ _ _ _ _ g0];rfl,by rw[WQ _ _ _ _ _ _ g0];rfl,ok2,ok4,rfl⟩
   have hi:=Hd (gb.o.trans (gs.mono gb.o.size));have gK:=gE.o.below gs;have gR:w1.heap.size<=wi.heap.size:=WU gX gs.size;have gJ:wr.heap.size+1<wi.heap.size:=(WL.1 g0).1;clear gp g0 e0 e1 e2 e3 e4 e5 e6 e7 e8 ok1 ok2 ok3 ok4 gE gb gs
   go_loopw [8,38] (fun s8 s38 wx=>∃ (j:Nat) (Wt:List (Nat×Nat)),j<=2/\s38=.int .i64 j/\s8=.int .i64 Wt.length/\Bw w wx/\wi.heap.size<=wx.heap.size/\(∀ q,q≠w.heap.size->q<wi.heap.size->wx.heap[q]?=wi.heap[q]?)/\Ar wx w.heap.size encE (CC Wt)/\Hq (BD (d.tab x) ((ts.take k).flatMap Bv++[(ll,hl),(lh,hh)].take j) Wt)) (fun _ s38 _=>2-(intOf s38).toNat)
   case atStart=>exact⟨0,Wt,WX _,rfl,rfl,hi.o,WM _,fun _ _ _=>rfl,gK,Hd (by simpa using HW.o)⟩
   case round =>
    rename Wd=>wy
    clear HW gK;obtain⟨j,W2,hj,rfl,rfl,g4,gy,g5,g3,HW⟩:=hrel
    by_cases gT:j<2
    ·obtain⟨p1,p2,k1,k2,b1,b2,gH⟩:=HP.o j gT;have q1:=(Xz (w:=wi) (w':=wy) (a:=⟨wr.heap.size+1,j*2,none⟩) (g5 _ (by dsimp only;omega) gJ)).trans k1;have q2:=(Xz (w:=wi) (w':=wy) (a:=⟨wr.heap.size+1,j*2+1,none⟩) (g5 _ (by dsimp only;omega) gJ)).trans k2;have gu:=Hd gH;have gw:=Hd g5;have gl:=Hd g4;have gv:=Hd g3;have hy:(j:Int)<2:=by omega
     clear k1 k2 gH g5 g4 g3;go_upto_region 9 with fail;obtain⟨wz,gn⟩:=Ex (wy.alloc (.cells #[.int .i64 p1,.int .i64 p2] 257));rw[<- gn];have gg:Bw wy wz:=by rw[gn];exact Af _ _
     have g0:wz.heap[wy.heap.size]?=some (.cells #[.int .i64 p1,.int .i64 p2] 257 (0,0)):=by rw[gn];exact WN _ _
     have z1:wz.cell? ⟨wy.heap.size,0,none⟩=some (.int .i64 p1):=by rw[WQ _ _ 0 _ _ _ g0];rfl
     have z2:wz.cell? ⟨wy.heap.size,1,none⟩=some (.int .i64 p2):=by rw[WQ _ _ 1 _ _ _ g0];rfl
     have gc:=Hd (gl.o.trans (gg.mono gl.o.size));have gO:=Hd (gv.o.below gg);have gP:Hq (∀ q,q≠w.heap.size->q<wi.heap.size->wz.heap[q]?=wi.heap[q]?):=Hd fun q h1 h2=>(gg.block q (by omega)).trans (gw.o q h1 h2)
     have gS:wi.heap.size<=wz.heap.size:=WU gy gg.size;have v2:=Cq gc.o c2;have vt:=Cq gc.o gA;clear gn gg g0 q1 q2 gv gw gl;obtain⟨a1,gj⟩:∃ q,q=eflip p1 (eneg p2):=⟨_,rfl⟩;obtain⟨a2,gi⟩:∃ q,q=eflip p2 (eneg p2):=⟨_,rfl⟩;have gm:Hq (bkey p1 p2=(a1,a2)):=Hd (by unfold bkey;rw[gj,gi])
     have gN:Hq (a1=a2↔p1=p2):=Hd ⟨fun e=>by
      by_cases e2:p1=p2
      . exact e2
      . exact(FX (b:=eneg p2) e2 (by rw[<- gj,<- gi,e])).elim,fun e=>by rw[gj,gi,e]⟩
     have g6:=Hd (GW p1 p2 wz b1 b2);rw[<- gj,<- gi] at g6;obtain⟨ng,gI⟩:∃ q,q=eneg p2:=⟨_,rfl⟩;rw[<- gI] at g6;have gB:=Hd (gD.o.below gc.o he.o);clear gj gi gI b1 b2;go_wp2_with fail;refine g6.o.mono ?_;rintro e w' ⟨rfl,rfl⟩;clear g6 z1 z2;have h5:∃ fd:Option Nat,fd=d.tab x (a1,a2):=⟨_,rfl⟩;obtain⟨fd,gr⟩:=h5;have gx:Hq (Calls prog 180 #[Pt t,.int .i64 a1,.int .i64 a2] wz (Sm (.tuple #[.int .i64 ((fd.getD 0:Nat):Int),.bool fd.isSome]) wz)):=by
      refine Hd ?_;cases fd with
      | none=>exact Iq o x t (d.tab x) a1 a2 wz gB.o gr.symm
      | some id=>exact Ip o x t (d.tab x) a1 a2 id wz gB.o gr.symm
     have gQ:=Hd gr;clear gr;go_wp2_with fail;refine gx.o.mono ?_;rintro e w' ⟨rfl,rfl⟩;clear gx v2 vt;go_upto_region 12 with fail;obtain⟨wk,go⟩:=Ex (wz.alloc (.cells #[.int .i64 a1,.int .i64 a2] 257));rw[<- go];have gh:Bw wz wk:=by rw[go];exact Af _ _
     have g0:wk.heap[wz.heap.size]?=some (.cells #[.int .i64 a1,.int .i64 a2] 257 (0,0)):=by rw[go];exact WN _ _
     have z1:wk.cell? ⟨wz.heap.size,0,none⟩=some (.int .i64 a1):=by rw[WQ _ _ 0 _ _ _ g0];rfl
     have z2:wk.cell? ⟨wz.heap.size,1,none⟩=some (.int .i64 a2):=by rw[WQ _ _ 1 _ _ _ g0];rfl
     have ga:=Hd (gc.o.trans (gh.mono gc.o.size));have gk:=Hd (gO.o.below gh);have HKK:Hq (∀ q,q≠w.heap.size->q<wi.heap.size->wk.heap[q]?=wi.heap[q]?):=Hd fun q h1 h2=>(gh.block q (by omega)).trans (gP.o q h1 h2)
     have gd:wi.heap.size<=wk.heap.size:=WU gS gh.size;clear go gh g0 gO gP gc gB
     by_cases g7:p1=p2
     ·have gM:a1=a2:=gN.o.2 g7;have g9:Hq (BD (d.tab x) ((ts.take k).flatMap Bv++[(ll,hl),(lh,hh)].take (j+1)) W2):=Hd (by rw[gu.o,<- Xf];exact HW.o.skip fun h=>(h g7).elim);have gU:((a1:Int) == a2)=true:=by simp[gM]
      clear g7 gM;go_wp2_with fail;go_roundw
      case rel=>exact⟨j+1,W2,by omega,by go_num,rfl,ga.o,gd,HKK.o,gk.o,g9⟩
      case measure=>simp[intOf];omega
     have gU:((a1:Int) == a2)=false:=by
      have h1:a1≠a2:=fun e=>g7 (gN.o.1 e)
      simp;omega
     cases fd with
     | some id =>
       have g9:Hq (BD (d.tab x) ((ts.take k).flatMap Bv++[(ll,hl),(lh,hh)].take (j+1)) W2):=Hd (by
        rw[gu.o,<- Xf];exact HW.o.skip fun _ h=>by rw[gm.o,<- gQ.o] at h;cases h)
       clear g7;go_wp2_with fail;go_roundw
       case rel=>exact⟨j+1,W2,by omega,by go_num,rfl,ga.o,gd,HKK.o,gk.o,g9⟩
       case measure=>simp[intOf];omega
     | none =>
       have g1:=gk.o.lookup (P:=prog) Dz underlying282 zeroValue4 (a1,a2) false;rw[Rz] at g1;simp only[Zb,if_false] at g1
       by_cases g8:(a1,a2)∈W2
       ·rw[XA g8] at g1
        have g9:Hq (BD (d.tab x) ((ts.take k).flatMap Bv++[(ll,hl),(lh,hh)].take (j+1)) W2):=Hd (by
         rw[gu.o,<- Xf];exact HW.o.skip fun _ _=>by rw[gm.o];exact g8)
        unfold encE at g1;dsimp only at g1;clear g7 g8;go_wp2_with fail;go_roundw
        case rel=>exact⟨j+1,W2,by omega,by go_num,rfl,ga.o,gd,HKK.o,gk.o,g9⟩
        case measure=>simp[intOf];omega
       ·rw[X8 g8] at g1
        have g9:Hq (BD (d.tab x) ((ts.take k).flatMap Bv++[(ll,hl),(lh,hh)].take (j+1)) (W2++[(a1,a2)])):=Hd (by
         rw[gu.o,<- Xf];have:=HW.o.add (p:=(p1,p2)) (by rw[gm.o,<- gQ.o]) (by rw[gm.o];exact g8);rw[gm.o] at this;exact this)
        have gV:=Hd (R3 g8);have hu:W2.length<=4194312:=by
         have h1:=HW.o.len;have h2:((ts.take k).flatMap Bv).length<=2*ts.length:=by
          rw[List.length_flatMap];have:((ts.take k).map fun a=>(Bv a).length)=List.replicate (ts.take k).length 2:=by
           rw[List.eq_replicate_iff];exact⟨by simp,fun b hb=>by obtain⟨q,_,rfl⟩:=WW.1 hb;rfl⟩
          rw[this];simp;omega
         have h3:([(ll,hl),(lh,hh)].take j).length<=2:=by simp;omega
         rw[WY] at h1;omega
        unfold encE at g1;dsimp only at g1;clear g7 g8;go_wp2_with (refine Ks (l:=CC W2) (enc:=encE) rfl _ _ _ rfl Dz underlying282 (a1,a2) (.bool true) rfl rfl rfl gk.o ?_;intro w6 gz gq);rw[gV.o] at gz;have hm:=Hd (ga.o.grown gq ga.o.size (fun q hq=>by cases hq;exact WM _));have ha:=Hd gz;have gZ:wi.heap.size<=w6.heap.size:=WU gd gq.size;have hf:Hq (∀ q,q≠w.heap.size->q<wi.heap.size->w6.heap[q]?=wi.heap[q]?):=Hd fun q h1 h2=>(gq.block q (by omega) (fun e=>h1 (by injection e))).trans (HKK.o q h1 h2)
        clear gz gq;go_roundw
        case rel=>exact⟨j+1,W2++[(a1,a2)],by omega,by go_num,by simp,hm.o,gZ,hf.o,ha.o,g9⟩
        case measure=>simp[intOf];omega
    ·have h6:j=2:=by omega
     subst h6;have h8:Hq (BD (d.tab x) ((ts.take (k+1)).flatMap Bv) W2):=Hd (by rw[gC.o];exact HW.o);have gl:=Hd g4;have gv:=Hd g3;have gY:w1.heap.size<=wy.heap.size:=WU gR gy;clear g4 g3 g5;go_wp2_with fail;go_roundw
     case rel=>exact⟨k+1,W2,by omega,by go_num,rfl,gl.o,gY,gv.o,h8⟩
     case measure=>simp[intOf];omega
  ·have gL:k=ts.length:=by omega
   have h7:Hq (∃ W':List (Nat×Nat),Ending.returned (.int .i64 (Wt.length:Nat))=.returned (.int .i64 (W'.length:Nat))/\BD (d.tab x) (ts.flatMap Bv) W'/\Bw w wr):=Hd ⟨Wt,rfl,by have:=HW.o;rw[gL,Xx] at this;exact this,gb.o⟩;have h4:¬ (k:Int)<ts.length:=by omega
   clear gL;go_wp2_with fail;go_ret;exact h7.o
open Go.ChangeMaps (setBlock)
def L0 (n:Nat)(w:Wd)(v:Value)(ks:List (Nat×Nat)):Prop:=∃ a c,v=.slice a ks.length c/\∀ j q,ks[j]?=some q->∃ g,a=some ⟨g,0,none⟩/\n<=g/\w.cell? ⟨g,j*2,none⟩=some (.int .i64 q.1)/\w.cell? ⟨g,j*2+1,none⟩=some (.int .i64 q.2)
theorem IY (ks:List (Nat×Nat)){q:Nat×Nat}(h:ks[j]?=some q)(i:Nat)(hi:i<2):(Go.Sort.flatK AL 2 ks.toArray)[j*2+i]! = (AL q)[i]! := by
 obtain⟨hj,rfl⟩:=Xk.1 h;rw[Go.Sort.get_flatK _ _ _ _ (by simp;omega)];have e1:(j*2+i)/2=j:=by omega
 have e2:(j*2+i)%2=i:=by omega
 rw[e1,e2];congr 2;simp[hj]
theorem R5 (ks:List (Nat×Nat)):(ks.flatMap AL).length=ks.length*2:=BP AL 2 (fun _=>rfl) ks
theorem R6 {m:Nat}{ks:List (Nat×Nat)}(h:RowR oG w .slots 257 2 (.slice (some ⟨g,0,none⟩) m cap) ks.length (ks.flatMap AL)):Go.Sort.HoldsK AL 2 w g 0 ks.toArray:=by
 intro j hj;have g0:j<ks.length*2:=by simpa using hj
 refine⟨?_,by rw[Xw];exact h.frozen j⟩;rw[Xw,h.cell j (by rw[R5];exact g0)];have hd:j/2<ks.length:=by omega
 have hm:j%2<2:=by omega
 have e:j=j/2*2+j%2:=by omega
 obtain⟨q,hq⟩:∃ q,ks[j/2]?=some q:=⟨_,WS hd⟩;have h1:=DL AL 2 (fun _=>rfl) ks (j/2) (j%2) q hq hm;have h2:=IY ks hq (j%2) hm;rw[<- e] at h1 h2;rw[h1,h2];obtain h0|h0:j%2=0\/j%2=1:=by omega
 . rw[h0];rfl
 . rw[h0];rfl
theorem R7 {ks:List (Nat×Nat)}(hg:n<=g)(h:Go.Sort.HoldsK AL 2 w g 0 ks.toArray):L0 n w (.slice (some ⟨g,0,none⟩) ks.length cap) ks:=by
 refine⟨_,_,rfl,fun j q hq=>⟨g,rfl,hg,?_,?_⟩⟩
 . have hj:=(Xk.1 hq).1;have h1:=(h (j*2) (by simp;omega)).1;have h2:=IY ks hq 0 (by omega);rw[Y6] at h2;rw[Xw] at h1;rw[h1,h2];rfl
 . have hj:=(Xk.1 hq).1;have h1:=(h (j*2+1) (by simp;omega)).1;have h2:=IY ks hq 1 (by omega);rw[Xw] at h1;rw[h1,h2];rfl
theorem R8 {f:Nat×Nat->Option Nat}{ks:List (Nat×Nat)}{Bx t:Nat}(row:RowR oG w .slots 257 2 v ks.length (ks.flatMap AL))(hlen:ks.length<1000000000)(hlow:Bw W w)
 (cB:W.cell? ⟨Bx,0,none⟩=some (.pointer (some ⟨t,0,none⟩))) (cT:W.cell? ⟨t,0,none⟩=some (.map (some mb))) (ge:∀ k r,oG k=some r->W.heap.size<=k) (lt:Ab oG w) (hmap:∀ W':Wd,W'.heap[mb]?=W.heap[mb]?->Ar W' mb encE lm) (hget:∀ k,getL lm k=(f k).map (fun(id:Nat)=>Value.int .i64 id))
 (lB:Bx<W.heap.size) (lT:t<W.heap.size) (lM:mb<W.heap.size) :
 Calls prog 212 #[v,.func (.func 213) #[] #[Pt Bx]] w fun e w'=>e=.returned (.tuple #[])/\∃ ks':List (Nat×Nat),ks'.Perm ks/\L0 W.heap.size w' v ks'/\Bw W w':=by
 rcases row.ex with ⟨rfl,h0⟩|⟨g,cap,cur,rfl,g1,hg,_⟩
 ·have hk:ks=[]:=Yg h0;subst hk;have g0:=AnyF.slices_SortFunc_none Tryz.sortKeys none 0 (.func (.func 213) #[] #[.pointer (some ⟨Bx,0,none⟩)]) w
  change Calls prog 212 _ _ _ at g0
  refine g0.mono ?_;rintro e w' ⟨rfl,rfl⟩;exact⟨rfl,[],List.Perm.refl _,⟨none,0,rfl,fun j q h=>by simp at h⟩,hlow⟩
 . have h1:=ge g _ g1;refine(Rm (f:=f) (R6 row) (lt g _ g1) hlen ((hlow.cell (p:=⟨Bx,0,none⟩) lB).trans cB) ((hlow.cell (p:=⟨t,0,none⟩) lT).trans cT) (hmap w (hlow.block mb lM)) hget (by omega) (by omega) (by omega)).mono ?_;rintro e w' ⟨rfl,ks',hp,hh,hs,e1,e2,e3,hk⟩;have:=hp.length_eq;refine⟨rfl,ks',hp,?_,⟨e1.trans hlow.os,e2.trans hlow.tape,e3.trans hlow.output,WU hlow.size hs,fun b hb=>(hk b (Xh hb hlow.size) (by omega)).trans (hlow.block b hb)⟩⟩;rw[<- this];exact R7 h1 hh
theorem R9 {F:Fence}{c:Code}(R:Wd->Prop)(h:∃ A,c.wpIn F n P (fun e a' W'=>match e with|.normal=>a'=A/\R W'|_=>False) a w/\∀ W',R W'->Q .normal A W'):c.wpIn F n P Q a w:=by
 obtain⟨A,h1,h2⟩:=h;refine wpIn_mono h1 ?_;intro e a' W' h;cases e with
 | normal=>obtain⟨rfl,h3⟩:=h;exact h2 _ h3
 | _=>exact h.elim
structure YS (n₀:Nat)(W w2:Wd)(Bx t:Nat)(ak:Option Addr)(ks:List (Nat×Nat))(M M1:Nat->Prop)(wr:Wd):Prop where
 low:Below n₀ W wr
 box:wr.cell? ⟨Bx,0,none⟩=some (.pointer (some ⟨t,0,none⟩))
 keys:∀ j q,ks[j]?=some q->∃ g,ak=some ⟨g,0,none⟩/\W.heap.size<=g/\g<w2.heap.size/\wr.cell? ⟨g,j*2,none⟩=some (.int .i64 q.1)/\wr.cell? ⟨g,j*2+1,none⟩=some (.int .i64 q.2)
 nb:¬ M1 Bx
 sub:∀ k,M1 k->M k\/w2.heap.size<=k
 lt:∀ k,M k->k<W.heap.size
 ge:∀ k,M1 k->n₀<=k
 wr:Wr (fun k=>n₀<=k) w2 wr
theorem YS.go {Bx t:Nat}{ak:Option Addr}{ks:List (Nat×Nat)}{M1 M2:Nat->Prop}(h:YS n₀ W w2 Bx t ak ks M M1 wr)(hn:n₀<=W.heap.size)(hx:Bw wr wx)(hw:Wr M1 wx w')(hM:∀ k,M2 k->M1 k\/wx.heap.size<=k):YS n₀ W w2 Bx t ak ks M M2 w':=by
 have s0:=h.low.size;have s1:=h.wr.size;have s2:=hx.size;have keep:∀ {b k:Nat} {v:Value},wr.cell? ⟨b,k,none⟩=some v->¬ M1 b->w'.cell? ⟨b,k,none⟩=some v:=fun {b k v} hc hb=>by
  have g0:b<wr.heap.size:=Ag hc;exact(Co ((hx.cell (p:=⟨b,k,none⟩) g0).trans hc) (hw.keep b (by omega) hb))
 refine⟨h.low.trans ((hx.mono (by omega)).trans (hw.below h.ge (by omega))),keep h.box h.nb,fun j q hq=>?_,fun e=>?_,fun k hk=>?_,h.lt,fun k hk=>?_,h.wr.trans ((Wr.of_below hx (fun k=>n₀<=k)).trans hw (fun _ _ e=>e) (fun k _ hk=>h.ge k hk)) (fun _ _ e=>e) (fun _ _ e=>e)⟩
 ·obtain⟨g,e,a1,a2,a3,a4⟩:=h.keys j q hq;have hg:¬ M1 g:=fun hg=>by
   rcases h.sub g hg with h1|h1
   . have:=h.lt g h1;omega
   . omega
  exact⟨g,e,a1,a2,keep a3 hg,keep a4 hg⟩
 ·rcases hM Bx e with h1|h1
  . exact h.nb h1
  . have:=Ag h.box;simp at this;omega
 ·rcases hM k hk with h1|h1
  . exact h.sub k h1
  . right;omega
 ·rcases hM k hk with h1|h1
  . exact h.ge k h1
  . omega
theorem RA (n n₀ Bx t v:Nat){o:Own}{f:Nat×Nat->Option Nat}(ht:AJ o w0 v t f)(hlt:Ab o w0)(h0:w0.heap.size<=n₀)(w:Wd)(hw:Below n₀ w0 w)(hn0:n₀<=w.heap.size)(hBn:n₀<=Bx)(hBp:w.cell? ⟨Bx,0,none⟩=some (.pointer (some ⟨t,0,none⟩)))
 (hcard:∀ l:List ((Nat×Nat)×Value),(l.map Prod.fst).Nodup->(∀ k,getL l k=(f k).map (fun(id:Nat)=>Value.int .i64 id))->l.length<1000000000) :
 Ln Fence.wide n 0 prog 211 #[.pointer (some ⟨Bx,0,none⟩)] (fun p:(Nat×Nat)×Nat=>#[encE p.1,.int .i64 p.2]) n₀ (· = Bx) (fun xs=>(xs.map Prod.fst).Nodup/\∀ k id,(k,id)∈xs↔f k=some id) w:=by
 intro l J M W gU gV gl h5 hY hJ;have k4:Bx<W.heap.size:=Xh (Ag hBp) gl.size;have gb:Below n₀ w0 W:=hw.trans (gl.below (fun k h=>h.1) hn0);have cB:W.cell? ⟨Bx,0,none⟩=some (.pointer (some ⟨t,0,none⟩)):=Co hBp (gl.keep Bx (Ag hBp) (fun h=>h.2 rfl));obtain⟨mb,lm,h1,h2,h3,h4⟩:=ht.ex;have hW:t<w0.heap.size:=(WL.1 h1).1;have hT:W.heap[t]?=some (.cells #[.map (some mb)] 234 (0,0)):=(gb.block t (by omega)).trans h1;have cT:=cell1 hT;have hZ:mb<w0.heap.size:=h3.lt;obtain⟨es,clock,gM,gj,g9,gz⟩:=h3.ex;have hM:W.heap[mb]?=some (.map es clock):=(gb.block mb (by omega)).trans gM;have gJ:=run_range_map (P:=prog) W 232 _ _ mb es clock underlying232 hM;obtain⟨W1,gm⟩:=Ex (W.alloc (.mapIter (some mb) clock #[] clock));have gS:Bw W W1:=by rw[gm];exact Af _ _
 have gP:W1.heap[W.heap.size]?=some (.mapIter (some mb) clock #[] clock):=by rw[gm];exact WN _ _
 rw[<- gm] at gJ;have gN:mb<W.heap.size:=by have:=gb.size;omega
 have gw:es.size<1000000000:=by
  have e1:=X3 List.length gj;have e2:=hcard lm h3.nodup h4;simp at e1;omega
 have hn:=Hd gw;have gC:Hq (∀ W',W'.heap[mb]?=W.heap[mb]?->Ar W' mb encE lm):=Hd fun W' hh=>⟨⟨es,clock,hh.trans hM,gj,g9,gz⟩,h3.nodup⟩
 have gc:=Hd h4;have hL:=Hd (hcard lm h3.nodup h4);have hH:=Hd h3.nodup;have HM:=Hd hM;have gG:=Hd g9;have hc:=Hd gz;have hb:=Hd gj;have hU:=Hd gS;have ha:=Hd gP;have HJ:=Hd hJ;have hI:=Hd (h5 Bx rfl);have HY:=Hd hY;have h7:=Hd gU;have h8:=Hd gV;obtain⟨r,hr⟩:=Ex W.heap.size;rw[<- hr] at gJ ha;have HR:=Hd hr;clear hcard gw hJ hY gU gV gS gP gm hM g9 gz gj h1 h2 h3 h4 hT gM ht gl h5 hw hr;refine callsIn_of_wp func211 rfl trivial ?_ rfl;refine wpIn_wide.2 ?_;simp only[ntmps211,XQ,Xm,XS,Nat.reduceAdd,Nat.reduceSub,XZ,Ya,Yo,Yf,XK,Ym];go_wp2_with fail
 go_loopg [3] (leftOf es #[]).size (fun gk s3 wr=>∃ seen ks sl oG,KeyS W mb r clock es seen ks sl s3 oG wr/\gk=(leftOf es seen).size)
 case atStart=>exact⟨#[],[],[],fun _=>none,⟨hU.o,ha.o,CB.start es clock,RowR.nil _ _ _ _ _,fun k q h=>(by cases h),fun k q h=>(by cases h),rfl,by have h:(leftOf es #[]).size<=es.size:=(by unfold leftOf;exact Array.size_filter_le);simpa using h⟩,rfl⟩
 case round =>
  obtain⟨seen,ks,sl,oG,hS,gv⟩:=hrel;have gn:=(hS.low.block mb gN).trans HM.o;have g8:ks.length<1000000000:=by have:=hS.cnt;have:=hn.o;omega
  rcases run_next_at (P:=prog) wr 0 r mb clock clock seen es clock hS.it gn gG.o (WM _) with ⟨hz,g4⟩|⟨e,he,w1,g6,g4⟩
  ·have gh:=hS.came.keysOf (w:=W) (b:=mb) hc.o hz hb.o;have gg:=R8 hS.row g8 (hS.low.trans (Xd _ _)) cB cT (fun k q h=>(hS.ge k q h).2) hS.lt gC.o gc.o (Ag cB) (Ag cT) gN;have gF:=Hd gh;have gE:=Hd gg;clear hS hz gh gg;go_wp2_with fail;refine gE.o.mono ?_;rintro x w2 ⟨rfl,ks',hp,ho,g5⟩;obtain⟨ak,ck,rfl,ga⟩:=ho;have HP:=Hd (hp.trans gF.o);have hQ:=Hd ga;have HB2:=Hd g5;have gZ:J [] M w2:=h8.o _ _ _ _ HJ.o ⟨g5.os,g5.tape,g5.output,g5.size,fun k hk _=>g5.block k hk⟩;have hO:=Hd gZ;clear hp ga g5 gZ g4 gn g8 gv;go_wp2_with fail;refine(wpIn_wide (n:=n)).1 ?_;obtain⟨xs,gt⟩:=Ex (ks'.map (fun k=>(k,(f k).getD 0)));have gi:=Rn HP.o hH.o gc.o gt;have k0:ks'.length<1000000000:=by have h1:=HP.o.length_eq;have h2:=hL.o;simp at h1;omega
   have h6:=Hd gt;have gs:=Hd gi;have gH:YS n₀ W w2 Bx t ak ks' M M w2:=by
    refine⟨HB2.o.mono (by omega),(Cq HB2.o cB),fun j q hq=>?_,hI.o,fun k h=>.inl h,fun k hk=>(h7.o _ _ _ HJ.o k hk).2,fun k hk=>(h7.o _ _ _ HJ.o k hk).1,Wr.refl _ _⟩;obtain⟨g,a1,a2,a3,a4⟩:=hQ.o j q hq;exact⟨g,a1,a2,Ag a3,a3,a4⟩
   have hB:=Hd gH;have hX:prog.follows .mixedOrders=true:=by kernel_rfl
   clear gt gi gH
   gi_loopw [27] (fun i wr=>∃ (k:Nat) (M1:Nat->Prop),k<=ks'.length/\i=.int .i64 k/\J (xs.take k) M1 wr/\YS n₀ W w2 Bx t ak ks' M M1 wr) (fun i _=>ks'.length-(intOf i).toNat)
   case atStart=>exact⟨0,M,WX _,rfl,hO.o,hB.o⟩
   case round =>
    obtain⟨k,M1,hk,rfl,gq,hS⟩:=hrel
    by_cases gu:k<ks'.length
    ·obtain⟨q,hq⟩:∃ q,ks'[k]?=some q:=⟨_,WS gu⟩;obtain⟨g,hA,hv,hu,e0,e1⟩:=hS.keys k q hq;subst hA;have k3:(k:Int)<ks'.length:=by omega
     have cB3:=hS.box;have cT3:=(hS.low.cell (p:=⟨t,0,none⟩) (by show t<n₀;omega)).trans cT;obtain⟨w3,g0⟩:=Ex (wr.alloc (.cells #[.int .i64 q.1,.int .i64 q.2] 257));have g2:Bw wr w3:=by rw[g0];exact Af _ _
     have gY:J (xs.take k) M1 w3.drew:=h8.o _ _ _ _ gq (by
      have:=(Wr.of_below g2 (fun k=>n₀<=k/\¬ M1 k)).drew;exact this)
     have g7:=Ro (G:=fun xs:List ((Nat×Nat)×Nat)=>(xs.map Prod.fst).Nodup/\∀ k id,(k,id)∈xs↔f k=some id) gs.o (k:=k) (x:=(q,(f q).getD 0)) (by rw[h6.o,XC,hq];rfl);obtain⟨suf,g7,gf⟩:=g7;obtain⟨fn,tmps,assign,body,hy,gT⟩:=HY.o _ (q,(f q).getD 0) M1 w3.drew gY ⟨suf,g7⟩;have hg:mb<n₀:=by omega
     have gD:=Lq (gC.o w3.drew ((g2.block mb (by have:=hS.low.size;omega)).trans (hS.low.block mb hg))) gc.o q;have gR:w3.heap[wr.heap.size]?=some (.cells #[.int .i64 q.1,.int .i64 q.2] 257 (0,0)):=by rw[g0];exact WN _ _
     obtain⟨x0,x1,_⟩:=cells2 gR;have b3:=Cq g2 cB3;have t3:=Cq g2 cT3;simp only[encE] at hy;have hF:=Hd gT;have HS:=Hd hS;have hd:=Hd g2;have hC:=Hd gf;have gB:Hq (_=w3):=Hd g0.symm;obtain⟨b6,gA⟩:=Ex wr.heap.size;have hR:Hq (_=b6):=Hd gA.symm;rw[<- gA] at x0 x1;clear gR hS g2 gY gq g7 gT gf g0 gA gu hv hu hq cB3 cT3
     gi_wp2
     rw[gB.o,hR.o];refine R9 (fun W'=>∃ M3,J (xs.take k++[(q,(f q).getD 0)]) M3 W'/\Wr M1 w3.drew W'/\∀ k,M3 k->M1 k\/w3.drew.heap.size<=k) ?_;apply Exists.intro;refine⟨?_,?_⟩
     ·gi_region_with_o (refine⟨fun h=>(by cases h),hF.o.mono ?_⟩;rintro e W4 ⟨rfl,M3,gr,gd,gp⟩)
      all_goals exact⟨rfl,M3,gr,gd,gp⟩
     ·rintro W4 ⟨M3,gr,gd,gp⟩;have hN:=Hd gr;have hE:=Hd (HS.o.go (by omega) (hd.o.trans ((Ap w3 1).mono hd.o.size)) gd gp);clear gr gd gp x0 x1 b3 t3 e0 e1 gD hy
      gi_wp2
      go_roundw
      case rel=>exact⟨k+1,M3,by omega,by go_num,by rw[hC.o];exact hN.o,hE.o⟩
      case measure=>simp[intOf];omega
    ·obtain rfl:k=ks'.length:=by omega
     have h9:=Hd gq;have HS:=Hd hS;clear gq hS
     gi_wp2
     go_end0;have ht:xs.take ks'.length=xs:=Xn (by rw[h6.o];simp);rw[ht] at h9;exact⟨⟨_,rfl⟩,xs,M1,gs.o,h9.o,(Wr.of_below HB2.o (fun k=>n₀<=k)).trans HS.o.wr (fun _ _ e=>e) (fun _ _ e=>e),fun k hk=>(HS.o.sub k hk).imp id fun h=>WU HB2.o.size h⟩
  ·have gy:=(mem_left he).1;obtain⟨q,hq⟩:∃ q,e.key=encE q:=by
    have h1:(e.key,e.val)∈es.toList.map (fun e=>(e.key,e.val)):=WW.2 ⟨e,gy,rfl⟩;rw[hb.o] at h1;obtain⟨p,_,h2⟩:=WW.1 h1;exact⟨p.1,(Prod.mk.inj h2).1.symm⟩
   obtain⟨w2,g3⟩:=Ex (setBlock w1 r (.mapIter (some mb) clock (seen.push e.born) clock));have hf:=g3;obtain⟨w3,g0⟩:=Ex (w2.alloc (.cells #[.int .i64 q.1,.int .i64 q.2] 257));have g2:Bw w2 w3:=by rw[g0];exact Af _ _
   obtain⟨row3,lt3⟩:=hS.row3 g6 g3 g2;have z2:w2.heap.size=wr.heap.size:=by rw[g3];rcases g6 with rfl|rfl<;>simp[setBlock]
   have gI:r<wr.heap.size:=(WL.1 hS.it).1;have gL:mb≠r:=by have:=HR.o;omega
   have gX:w2.heap[mb]?=some (.map es clock):=by rw[g3];rcases g6 with rfl|rfl<;>simp[setBlock,YJ,X1 gL]<;>exact gn
   have i2:w2.heap[r]?=some (.mapIter (some mb) clock (seen.push e.born) clock):=by rw[g3];rcases g6 with rfl|rfl<;>simp[setBlock,gI]
   have gx:=run_entry_at (P:=prog) w2 r mb clock seen es clock e i2 gX gy hc.o;have hG:Hq (∀ (g1 k1:Nat) (w4:Wd) (o1:Own),RowR o1 w4 .slots 257 2 (.slice (some ⟨g1,0,none⟩) (ks.length+1) k1) (ks.length+1) (ks.flatMap AL++AL q)->Chg (· = .slots) oG o1 w3 w4->Ab o1 w4->KeyS W mb r clock es (seen.push e.born) (ks++[q]) (sl++[e]) (.slice (some ⟨g1,0,none⟩) (ks.length+1) k1) o1 w4) :=
    Hd fun g1 k1 w4 o1 a b c=>hS.next (by have:=HR.o;omega) he hq g6 g3 g2 a b c
   have hD:=Hd (left_shrinks es seen e he);have cB2:w3.cell? ⟨w2.heap.size,0,none⟩=some (.int .i64 q.1):=by rw[g0,WQ _ _ 0 _ _ _ (WN w2 _)];rfl
   have cB3:w3.cell? ⟨w2.heap.size,1,none⟩=some (.int .i64 q.2):=by rw[g0,WQ _ _ 1 _ _ _ (WN w2 _)];rfl
   have hP:=Hd gv;have hm:=Hd g8;have hi:=Hd row3;have hj:=Hd lt3;rw[hq] at g4 gx;rw[<- g3] at g4;unfold encE at g4 gx;have gB:Hq (_=w3):=Hd g0.symm;clear hS he gy hq g6 g3 hf g0 g2 row3 lt3 z2 gI gL gX i2 gn gv g8;go_upto_region 5 with fail;rw[gB.o]
   go_wp2_with (at_builtin
                refine ES (wr:=w3) 283 257 2 16 _ underlying283 Ri rfl (by decide) rfl _ _ rfl rfl rfl rfl rfl rfl (by simp[Value.oneCell']) hi.o hj.o hm.o (by decide) ?_;intro g1 k1 w4 o1 gK gQ gO;have hK:=Hd (hG.o g1 k1 w4 o1 gK gQ gO);clear gK gQ gO)
   go_roundg (leftOf es (seen.push e.born)).size
   case rel=>exact⟨_,_,_,_,hK.o,rfl⟩
   case measure=>have h1:=hD.o;have h2:=hP.o;omega
abbrev YM:=@List.mem_of_mem_erase
theorem CD:∀ (n:Nat) (l:List Nat),l.Nodup->(∀ x∈l,x<n)->l.length<=n
 | 0,l,_,h=>by
   cases l with
   | nil=>simp
   | cons a l=>have:=h a (by simp);omega
 | n+1,l,hn,h=>by
   by_cases hm:n∈l
   ·have h1:=CD n (l.erase n) (hn.erase n) (fun x hx=>by
     have h2:=h x (YM hx);have h3:x≠n:=fun e=>by subst e;exact(List.Nodup.not_mem_erase hn) hx
     omega)
    rw[List.length_erase_of_mem hm] at h1;omega
   ·have h1:=CD n l hn (fun x hx=>by
     have h2:=h x hx;have h3:x≠n:=fun e=>by subst e;exact hm hx
     omega)
    omega
theorem RB (ht:∀ lo hi id,d.tab x (lo,hi)=some id->Aa d id=some ⟨x,lo,hi⟩)(hlt:∀ i b,Aa d i=some b->i<n)(hn:n<1000000000)(l:List ((Nat×Nat)×Value))(hnd:(l.map Prod.fst).Nodup)(hf:∀ k,getL l k=(d.tab x k).map (fun(id:Nat)=>Value.int .i64 id)):l.length<1000000000:=by
 have hk:∀ k∈l.map Prod.fst,∃ id,d.tab x k=some id:=fun k hk=>by
  cases h:d.tab x k with
  | some id=>exact⟨id,rfl⟩
  | none =>
    have h1:=CO (l:=l) (k:=k);rw[hf k,h] at h1;obtain⟨p,hp,rfl⟩:=WW.1 hk;exact absurd rfl (h1.1 rfl p hp)
 have g0:(((l.map Prod.fst)).map fun k=>(d.tab x k).getD 0).Nodup:=by
  refine Yh.2 (hnd.imp_of_mem ?_);intro a b ha hb g2 e;obtain⟨i,hi⟩:=hk a ha;obtain⟨j,hj⟩:=hk b hb;rw[hi,hj] at e;simp only[Option.getD_some] at e;subst e;have e1:=ht a.1 a.2 _ hi;have e2:=ht b.1 b.2 _ hj;rw[e1] at e2;simp only[X0,BN.mk.injEq,true_and] at e2;exact g2 (Prod.ext e2.1 e2.2)
 have:=CD n _ g0 (fun i hi=>by
  obtain⟨k,g1,rfl⟩:=WW.1 hi;obtain⟨id,h1⟩:=hk k g1;rw[h1];exact hlt _ _ (ht k.1 k.2 _ h1))
 simp at this;omega
attribute [local go_sem] Oper.semAt_some
theorem RC (t:Nat)(w:Wd):Calls prog 201 #[Pt t] w fun e w'=>e=.returned (.func (.func 211) #[] #[.pointer (some ⟨w.heap.size,0,none⟩)])/\w'=w.alloc (.cells #[.pointer (some ⟨t,0,none⟩)] 189):=by
 have g0:∀ (fn:Fn) (first cap:Array Value) (w:Wd),(Instr.makeFunc fn first cap).run prog w=.ok (.func fn first cap) w:=fun _ _ _ _=>rfl
 delta Pt;go_enter func201,ntmps201
 go_wp2_with fail;go_ret;exact⟨rfl,rfl⟩
def Ba (d:Ae)(y:Nat)(pre:List ((Nat×Nat)×Nat)):List TN:=(pre.filter (fun p=>Cb d y p.2)).map (fun p=>tnOf d y p.2)
structure TurS (d:Ae)(y:Nat)(w:Wd)(sb:Nat)(pre:List ((Nat×Nat)×Nat))(M:Nat->Prop)(W:Wd)(v:Value)(oG:Own):Prop where
 mm:∀ k,M k↔(k=w.heap.size\/k=w.heap.size+1\/k=w.heap.size+2\/oG k=some .slots)
 low:Bw w W
 boxs:W.heap[w.heap.size]?=some (.cells #[.pointer (some ⟨sb,0,none⟩)] 110 (0,0))
 boxy:W.heap[w.heap.size+1]?=some (.cells #[.int .i64 y] 3 (0,0))
 boxg:W.heap[w.heap.size+2]?=some (.cells #[v] 265 (0,0))
 row:RowR oG W .slots 270 9 v (Ba d y pre).length ((Ba d y pre).flatMap tnV)
 lt:Ab oG W
 ge:∀ k r,oG k=some r->r=.slots/\w.heap.size+3<=k
theorem TurS.no {pre:List ((Nat×Nat)×Nat)}(h:TurS d y w sb pre M W v oG)(k:Nat)(hk:k<w.heap.size+3):oG k=none:=by
 cases e:oG k with
 | none=>rfl
 | some r=>have:=(h.ge k r e).2;omega
theorem TurS.minds {pre:List ((Nat×Nat)×Nat)}(h:TurS d y w sb pre M W v oG)(hw:Wr (fun k=>w.heap.size<=k/\¬ M k) W W'):TurS d y w sb pre M W' v oG:=by
 have hk:∀ k,k<W.heap.size->M k->W'.heap[k]?=W.heap[k]?:=fun k h1 h2=>hw.keep k h1 (fun e=>e.2 h2)
 have hm:=h.mm
 refine⟨hm,h.low.trans (hw.below (fun k h=>h.1) h.low.size),(hk _ (WL.1 h.boxs).1 ((hm _).2 (.inl rfl))).trans h.boxs,(hk _ (WL.1 h.boxy).1 ((hm _).2 (.inr (.inl rfl)))).trans h.boxy,
  (hk _ (WL.1 h.boxg).1 ((hm _).2 (.inr (.inr (.inl rfl))))).trans h.boxg,h.row.keep (fun g hg=>hk g (h.lt g _ hg) ((hm g).2 (.inr (.inr (.inr hg))))) (fun _ h=>h),h.lt.mono hw.size,h.ge⟩
theorem RD {pre:List ((Nat×Nat)×Nat)}{p:(Nat×Nat)×Nat}(h:Cb d y p.2=false):Ba d y (pre++[p])=Ba d y pre:=by unfold Ba;rw[XO];simp[h]
theorem RE {pre:List ((Nat×Nat)×Nat)}{p:(Nat×Nat)×Nat}(h:Cb d y p.2=true):Ba d y (pre++[p])=Ba d y pre++[tnOf d y p.2]:=by unfold Ba;rw[XO];simp[h]
theorem TurS.skip {pre:List ((Nat×Nat)×Nat)}{p:(Nat×Nat)×Nat}(h:TurS d y w sb pre M W v oG)(hp:Cb d y p.2=false):TurS d y w sb (pre++[p]) M W v oG :=
 ⟨h.mm,h.low,h.boxs,h.boxy,h.boxg,by rw[RD hp];exact h.row,h.lt,h.ge⟩
theorem TurS.add {pre:List ((Nat×Nat)×Nat)}{oG':Own}{p:(Nat×Nat)×Nat}(h:TurS d y w sb pre M W v oG)(hp:Cb d y p.2=true)
 (hr:RowR oG' W1 .slots 270 9 v' ((Ba d y pre).length+1) (((Ba d y pre).flatMap tnV)++tnV (tnOf d y p.2))) (hg:Chg (· = .slots) oG oG' W W1) (hl:Ab oG' W1) {n:Nat} (hn:n<=W.heap.size) :
 ∃ M',(∃ v oG,TurS d y w sb (pre++[p]) M' (W1.setCell ⟨w.heap.size+2,0,none⟩ v') v oG)/\Wr (fun k=>M k\/n<=k) W (W1.setCell ⟨w.heap.size+2,0,none⟩ v')/\∀ k,M' k->M k\/n<=k:=by
 have g0:w.heap.size+2<W.heap.size:=(WL.1 h.boxg).1;have k0:=(hg.alien (by omega) (h.no w.heap.size (by omega))).trans h.boxs;have ky:=(hg.alien (by omega) (h.no (w.heap.size+1) (by omega))).trans h.boxy;have k1:=(hg.alien g0 (h.no (w.heap.size+2) (by omega))).trans h.boxg;have ge':∀ k r,oG' k=some r->r=.slots/\w.heap.size+3<=k:=fun k r hk=>by
  by_cases e:oG' k=oG k
  . rw[e] at hk;exact h.ge k r hk
  ·obtain⟨a1,q,a2,a3⟩:=hg.new k e;rw[hk] at a2;cases a2
   exact⟨a3,by omega⟩
 refine⟨fun k=>k=w.heap.size\/k=w.heap.size+1\/k=w.heap.size+2\/oG' k=some .slots,⟨v',oG',⟨fun k=>Iff.rfl,?_,?_,?_,Az k1 _,?_,hl.mono (by simp[World.setCell]),ge'⟩⟩,?_,fun k hk=>?_⟩
 . have:Bw w W1:=h.low.trans ⟨hg.os,hg.tape,hg.output,hg.size,fun k hk=>hg.alien (Xh hk h.low.size) (h.no k (by omega))⟩;exact this.setCell (p:=⟨w.heap.size+2,0,Option.none⟩) (by show _<=w.heap.size+2;omega) _
 . exact(Aw (by show _≠w.heap.size+2;omega) _).trans k0
 . exact(Aw (by show _≠w.heap.size+2;omega) _).trans ky
 . rw[RE hp,WY,YC];simp only[Y2,Yn,List.flatMap_nil,Yd];exact hr.setCell_other (fun e=>by have:=(ge' _ _ e).2;simp at this) _
 . have:Wr (fun k=>M k\/n<=k) W W1:=⟨hg.os,hg.tape,hg.output,hg.size,fun k hk hm=>hg.block k hk fun r hr e=>hm (.inl ((h.mm k).2 (.inr (.inr (.inr (by rw[hr,e]))))))⟩;exact this.setCell (p:=⟨w.heap.size+2,0,Option.none⟩) (.inl (.inl ((h.mm _).2 (.inr (.inr (.inl rfl)))))) _
 ·rcases hk with hk|hk|hk|hk
  . exact .inl ((h.mm k).2 (.inl hk))
  . exact .inl ((h.mm k).2 (.inr (.inl hk)))
  . exact .inl ((h.mm k).2 (.inr (.inr (.inl hk))))
  ·by_cases e:oG' k=oG k
   . rw[e] at hk;exact .inl ((h.mm k).2 (.inr (.inr (.inr hk))))
   . have:=(hg.new k e).1;right;omega
abbrev YV:=@List.nodup_iff_pairwise_ne
theorem L3 (ht:∀ lo hi id,d.tab x (lo,hi)=some id->Aa d id=some ⟨x,lo,hi⟩)(hlt:∀ i b,Aa d i=some b->i<n){xs:List ((Nat×Nat)×Nat)}(hnd:(xs.map Prod.fst).Nodup)(hf:∀ k id,(k,id)∈xs->d.tab x k=some id):xs.length<=n:=by
 have h1:(xs.map Prod.snd).Nodup:=by
  rw[YV,Yh];rw[YV,Yh] at hnd;refine hnd.imp_of_mem fun {a b} ha hb g0 e=>g0 ?_
  have q1:=ht _ _ _ (hf a.1 a.2 ha);have q2:=ht _ _ _ (hf b.1 b.2 hb);rw[e,q2] at q1;cases a;cases b
  simp at q1;exact Prod.ext q1.1.symm q1.2.symm
 have h2:=CD n (xs.map Prod.snd) h1 (fun i hi=>by
  obtain⟨q,hq,rfl⟩:=WW.1 hi;exact hlt _ _ (ht _ _ _ (hf q.1 q.2 hq)))
 simpa using h2
theorem L4:(prog.info? 270).map (fun i=>(i.zero,i.size,i.bytes))=some (some (.agg #[.int .i64 0,.int .i64 0,.int .i64 0,.int .i64 0,.int .i64 0,.int .i64 0,.int .i64 0,.int .i64 0,.int .i64 0]),9,72):=by kernel_rfl
theorem L5 (N:RN)(ll lh hl hh:Nat):tnV ⟨N,ll,lh,hl,hh⟩=[.int .i64 N.id,.int .i64 N.v,.int .i64 N.lo,.int .i64 N.hi,.int .i64 N.refs,.int .i64 ll,.int .i64 lh,.int .i64 hl,.int .i64 hh]:=rfl
theorem RF {o:Own}(h:Ay o w sb d)(hlt:Ab o w)(hk:Ai d V)(x y:Nat)(hx:x<d.vars.length) :
 Calls prog 186 #[Pt sb,.int .i64 x,.int .i64 y] w fun e w'=>∃ (v:Value) (ids:List Nat),e=.returned v/\ids.Nodup/\(∀ i,i∈ids↔Turns (Aa d) x y i)/\TRow w' w.heap.size v (ids.map (tnOf d y))/\Bw w w':=by
 obtain⟨s,h⟩:=h;obtain⟨gt,ct,hB,gD,hC,hE⟩:=h.tabAt hx;obtain⟨c0,c1,c2,c3,c4,f0⟩:=cells5 h.blk;rw[hB] at c2;obtain⟨t,ht⟩:=Ex (s.ts.getD x 0);rw[<- ht] at gD;have gs:=h.tab x hC;rw[<- ht] at gs;have hv:=Hd gs;have gq:=Hd h;have gr:=Hd hlt;have HK:=Hd hk;clear ht gs;have hZ:(x:Int)<s.ts.length:=by omega
 obtain⟨w1,gA⟩:=Ex (((w.alloc (.cells #[.pointer (some ⟨sb,0,none⟩)] 110)).alloc (.cells #[.int .i64 y] 3)).alloc (.cells #[.slice none 0 0] 265));have HW1:Hq (_=w1):=Hd gA.symm;have gp:Bw w w1:=by rw[gA];exact((Af _ _).alloc (by simp) _).alloc (by simp;omega) _
 have c2':=Cq gp c2;have ho:=Cq gp gD;have cB:w1.cell? ⟨w.heap.size,0,none⟩=some (.pointer (some ⟨sb,0,none⟩)):=by rw[gA];exact cell1 ((XE _ _ _ (by simp;omega)).trans ((XE _ _ _ (by simp)).trans (WN w _)))
 have HE:=Hd (fun t W=>RC t W);clear c0 c1 c2 c3 c4 f0 gD gA;refine(Zk (n:=9)).1 ?_;refine callsIn_of_wp_marks func186 rfl trivial ?_;refine wpIn_wide.2 ?_;simp only[ntmps186,XQ,Xm,XS,Nat.reduceAdd,Nat.reduceSub,XZ,Ya,Yo,Yf,XK,Ym];go_upto_region 2 with fail;rw[HW1.o];go_wp2_with fail;refine(HE.o _ _).mono ?_;rintro e w2 ⟨rfl,hA⟩;go_wp2_with fail;obtain⟨w2',g3⟩:=Ex (w1.alloc (.cells #[.pointer (some ⟨t,0,none⟩)] 189));rw[<- g3];have h3:Bw w w2':=by rw[g3];exact gp.alloc gp.size _
 have hs1:w1.heap.size=w.heap.size+3:=by rw[<- HW1.o];simp
 have k3:w2'.heap.size=w.heap.size+4:=by rw[g3];simp[hs1]
 have hO:w2'.heap[w.heap.size]?=some (.cells #[.pointer (some ⟨sb,0,none⟩)] 110 (0,0)):=by rw[g3,<- HW1.o];exact(XE _ _ _ (by simp<;>omega)).trans ((XE _ _ _ (by simp<;>omega)).trans ((XE _ _ _ (by simp)).trans (WN w _)))
 have hL:w2'.heap[w.heap.size+1]?=some (.cells #[.int .i64 y] 3 (0,0)):=by
  rw[g3,<- HW1.o];have h0:=WN (w.alloc (.cells #[.pointer (some ⟨sb,0,none⟩)] 110)) (.cells #[.int .i64 y] 3);rw[WV] at h0;exact(XE _ _ _ (by simp<;>omega)).trans ((XE _ _ _ (by simp)).trans h0)
 have hP:w2'.heap[w.heap.size+2]?=some (.cells #[.slice none 0 0] 265 (0,0)):=by
  rw[g3,<- HW1.o];have h0:=WN ((w.alloc (.cells #[.pointer (some ⟨sb,0,none⟩)] 110)).alloc (.cells #[.int .i64 y] 3)) (.cells #[.slice none 0 0] 265);rw[WV,WV] at h0;exact(XE _ _ _ (by simp)).trans h0
 have h4:w2'.cell? ⟨w1.heap.size,0,none⟩=some (.pointer (some ⟨t,0,none⟩)):=by rw[g3];exact cell1 (WN w1 _)
 have gE:=RB (d:=d) (x:=x) (fun lo hi id e=>(HK.o.tab x hx lo hi id).1 e) (n:=1048577) (fun i b e=>by have:=gq.o.tk_lt e;omega) (by omega);have HG:=Hd (RA 8 w.heap.size w1.heap.size t x hv.o gr.o (WM _) w2' h3 (by omega) (by omega) h4 gE);clear gE h4 g3 hA c2' ho cB HE hE gp;refine(wpIn_wide (n:=9)).1 ?_;refine Rg rfl (by omega) (gf:=211) (lb:=#[.pointer (some ⟨w1.heap.size,0,none⟩)]) rfl trivial (XY func211 (by kernel_rfl) rfl) HG.o (by omega) (by rintro k rfl;omega) (fun p=>rfl)
  (fun pre M W=>∃ v oG,TurS d y w sb pre M W v oG) ?_ ?_ (fun k=>k=w.heap.size\/k=w.heap.size+1\/k=w.heap.size+2) (by rintro k rfl h;omega) ⟨.slice none 0 0,fun _=>none,(⟨fun k=>by simp,h3,hO,hL,hP,RowR.nil _ _ _ _ _,fun k r h=>(by cases h),fun k r h=>(by cases h)⟩:TurS d y w sb [] _ w2' (.slice none 0 0) (fun _=>none))⟩
  (fun p a' W W1=>a'={ tmps:=#[Value.pointer (some { block:=sb,off:=0 }),Value.int IntKind.i64 ↑x,Value.int IntKind.i64 ↑y,Value.pointer (some { block:=w.heap.size,off:=0 }),undef,Value.pointer (some { block:=w.heap.size+1,off:=0 }),Value.slice none 0 0,Value.pointer (some { block:=w.heap.size+1+1,off:=0 }),undef,Value.int IntKind.i64 ↑p.2,undef,undef,undef,Value.pointer (some { block:=sb,off:=0 }),Value.pointer (some { block:=sb,off:=0 }),Value.pointer (some { block:=sb,off:=2 }),Value.slice (some { block:=gt,off:=0 }) s.ts.length ct,Value.int IntKind.i64 ↑x,Value.pointer (some { block:=gt,off:=x }),Value.pointer (some { block:=t,off:=0 }),Value.func (Fn.func 211) #[] #[Value.pointer (some { block:=w.heap.size+3,off:=0 })],encE p.1,Value.int IntKind.i64 ↑p.2,undef,undef,undef,undef,undef,undef,undef,undef,undef,undef,undef,undef,undef,undef,undef,undef,undef,undef,undef,undef,undef,undef,undef,undef,undef,undef,undef,undef,undef,undef,undef,undef,undef,undef,undef,undef,undef,undef,undef,undef,undef,undef,undef,undef,undef,undef,undef,undef],defers:=[] }) ?_ ?_ ?_ ?_
 ·rintro pre M W ⟨v,oG,hS⟩ k hk;rcases(hS.mm k).1 hk with rfl|rfl|rfl|hg
  . exact⟨WM _,(WL.1 hS.boxs).1⟩
  . exact⟨by omega,(WL.1 hS.boxy).1⟩
  . exact⟨by omega,(WL.1 hS.boxg).1⟩
  . have:=(hS.ge k _ hg).2;exact⟨by omega,hS.lt k _ hg⟩
 . rintro pre M W W' ⟨v,oG,hS⟩ hw;exact⟨v,oG,hS.minds hw⟩
 . intro p a' W W1 W2 l _ h _;exact h
 ·intro l pre p M W K hI hK
  gi_wp2
  exact hK _ _ (Wr.refl _ _) rfl
 ·rintro l pre p a' M W0 W ⟨v,oG,hS⟩ rfl gX k0 ⟨suf,gb,g0⟩;have gB:=L3 (d:=d) (x:=x) (fun lo hi id e=>(HK.o.tab x hx lo hi id).1 e) (n:=1048577) (fun i b e=>by have:=gq.o.tk_lt e;omega) gb (fun k id h=>(g0 k id).1 h);have gC:(Ba d y pre).length<1000000000:=by
   have h1:(Ba d y pre).length<=pre.length:=by unfold Ba;rw[Xy];exact XG _ _
   simp at gB;omega
  have gS:=Hd gC;clear gB gC gb;have hp:d.tab x p.1=some p.2:=(g0 p.1 p.2).1 (by simp);obtain⟨i,hi⟩:=Ex p.2;have gL:Aa d i=some ⟨x,p.1.1,p.1.2⟩:=(HK.o.tab x hx _ _ _).1 (by rw[hi];exact hp);obtain⟨gV,gN,gG⟩:=BA gL;rw[gN] at gG;obtain⟨N,hN⟩:=Ex (d.pool.nd i);have gK:=gq.o.below gr.o hS.low;have gM:=gr.o.mono hS.low.size;obtain⟨q0,q1,q2,q3,q4,_⟩:=cells5 gK.blk;have cs:=cell1 hS.boxs;have cy:=cell1 hS.boxy;have h7:=Hd (Kn o s.pb d.pool i W gK.pool gM gV);rw[<- hN] at h7 gG;rw[<- hi];have HI:=Hd hi;have HS:=Hd hS;have HN:=Hd hN;have hU:=Hd gG;have h5:=Hd gL;clear hS hi hN gG gL gK gM gV gN hp g0 q0 q2 q3 q4
  gi_wp2
  refine⟨trivial,(CallsIn.inRound l (Zk.2 h7.o)).mono ?_⟩;rintro e W3 ⟨rfl,go⟩;have cs3:=Cq go cs;have cy3:=Cq go cy;simp only[Am];have lb0:w.heap.size<W3.heap.size:=Ag cs3;have lb1:w.heap.size+1<W3.heap.size:=Ag cy3;have lb2:w.heap.size+1+1<W3.heap.size:=Xh (WL.1 HS.o.boxg).1 go.size;have gU:=Hd go;clear go cs cy q1
  gi_wp2
  obtain⟨W4,gg⟩:=Ex ((W3.alloc (.cells #[.int .i64 N.id,.int .i64 N.v,.int .i64 N.lo,.int .i64 N.hi,.int .i64 N.refs] 236)).alloc (.cells #[.int .i64 N.id,.int .i64 N.v,.int .i64 N.lo,.int .i64 N.hi,.int .i64 N.refs,.int .i64 0,.int .i64 0,.int .i64 0,.int .i64 0] 270));rw[<- gg];have n4:W4.heap[W3.heap.size]?=some (.cells #[.int .i64 N.id,.int .i64 N.v,.int .i64 N.lo,.int .i64 N.hi,.int .i64 N.refs] 236 (0,0)):=by rw[gg];exact(XE _ _ _ (by simp)).trans (WN W3 _)
  have t4:W4.heap[W3.heap.size+1]?=some (.cells #[.int .i64 N.id,.int .i64 N.v,.int .i64 N.lo,.int .i64 N.hi,.int .i64 N.refs,.int .i64 0,.int .i64 0,.int .i64 0,.int .i64 0] 270 (0,0)):=by
   rw[gg];have:=WN (W3.alloc (.cells #[.int .i64 N.id,.int .i64 N.v,.int .i64 N.lo,.int .i64 N.hi,.int .i64 N.refs] 236)) (.cells #[.int .i64 N.id,.int .i64 N.v,.int .i64 N.lo,.int .i64 N.hi,.int .i64 N.refs,.int .i64 0,.int .i64 0,.int .i64 0,.int .i64 0] 270);rw[WV] at this;exact this
  have gx:Hq (Wr (fun _=>False) W W4):=by rw[gg];exact Hd (((Wr.of_below gU.o (fun _=>False)).alloc _).alloc _)
  have h8:W.heap.size<=W3.heap.size:=gU.o.size;have gw:Bw W3 W4:=by rw[gg];exact(Af _ _).alloc (by simp) _
  obtain⟨b1,gP⟩:=Ex W3.heap.size;have cs4:=(gw.cell (p:=⟨w.heap.size,0,none⟩) lb0).trans cs3;have cy4:=(gw.cell (p:=⟨w.heap.size+1,0,none⟩) lb1).trans cy3;have gl:Hq (∀ Wc,Wr (fun _=>False) W Wc->TurS d y w sb pre M Wc v oG):=Hd fun Wc h=>HS.o.minds (h.mono fun k e=>e.elim)
  have gk:Hq (∀ Wc,Wr (fun _=>False) W Wc->Ay o Wc sb d/\Ab o Wc):=Hd fun Wc h=>⟨⟨s,gq.o.below gr.o (gl.o Wc h).low⟩,gr.o.mono (gl.o Wc h).low.size⟩
  have gu:okE (Aa d) N.lo/\okE (Aa d) N.hi:=by
   have e:=hU.o;have h1:=HK.o.dag.okLo _ _ h5.o;have h2:=HK.o.dag.okHi _ _ h5.o;have e1:p.1.1=N.lo:=by have:=X3 BN.lo e;exact this.symm
   have e2:p.1.2=N.hi:=by have:=X3 BN.hi e;exact this.symm
   dsimp only at h1 h2;rw[e1] at h1;rw[e2] at h2;exact⟨h1,h2⟩
  have hy:=Hd gu;obtain⟨⟨ll,lh⟩,g6⟩:∃ c,c=cofs d N.lo y:=⟨_,rfl⟩;obtain⟨⟨hl,hh⟩,gF⟩:∃ c,c=cofs d N.hi y:=⟨_,rfl⟩;have gz:=Hd (Lr (gk.o W4 gx.o).1 (gk.o W4 gx.o).2 HK.o N.lo gu.1 y);rw[<- g6] at gz;have hR:=Hd g6;have h6:=Hd gF;rw[<- gP] at n4 t4 h8 ⊢;clear gg cs3 cy3 gu g6 gF gw gU gP lb0 lb1 lb2;refine⟨trivial,(CallsIn.inRound l (Zk.2 gz.o)).mono ?_⟩;rintro e W5 ⟨rfl,gd⟩;have lW4:b1+1<W4.heap.size:=(WL.1 t4).1;have cs5:=Cq gd cs4;have cy5:=Cq gd cy4;have n5:=(gd.block b1 (by omega)).trans n4;have t5:=(gd.block (b1+1) lW4).trans t4;have hu:Hq (Wr (fun _=>False) W W5):=Hd (gx.o.trans (Wr.of_below gd (fun _=>False)) (fun _ _ e=>e) (fun _ _ e=>e));have f5:∀ q,W5.frozen? ⟨b1+1,q,none⟩=false:=fun q=>by simp[World.frozen?,t5]
  have k5:W5.cell? ⟨b1+1,5,none⟩=some (.int .i64 0):=by rw[WQ _ _ 5 _ _ _ t5];rfl
  have k6:W5.cell? ⟨b1+1,6,none⟩=some (.int .i64 0):=by rw[WQ _ _ 6 _ _ _ t5];rfl
  have m3:W5.cell? ⟨b1,3,none⟩=some (.int .i64 N.hi):=by rw[WQ _ _ 3 _ _ _ n5];rfl
  have lW5:b1+1<W5.heap.size:=(WL.1 t5).1;clear gd cs4 cy4 n4 t4 gz lW4
  gi_wp2
  obtain⟨W6,gI⟩:=Ex ((W5.setCell ⟨b1+1,5,none⟩ (.int .i64 (ll:Nat))).setCell ⟨b1+1,6,none⟩ (.int .i64 (lh:Nat)));rw[<- gI];have t6:W6.heap[b1+1]?=some (.cells #[.int .i64 N.id,.int .i64 N.v,.int .i64 N.lo,.int .i64 N.hi,.int .i64 N.refs,.int .i64 (ll:Nat),.int .i64 (lh:Nat),.int .i64 0,.int .i64 0] 270 (0,0)):=by
   rw[gI];exact Az (k:=6) (Az (k:=5) t5 (.int .i64 (ll:Nat))) (.int .i64 (lh:Nat))
  have gi:Hq (Wr (fun _=>False) W W6):=by rw[gI];exact Hd ((hu.o.setCell (p:=⟨b1+1,5,none⟩) (.inr (by show W.heap.size<=b1+1;omega)) _).setCell (p:=⟨b1+1,6,none⟩) (.inr (by show W.heap.size<=b1+1;omega)) _)
  have gh:=(gl.o W6 gi.o);have cs6:=cell1 gh.boxs;have cy6:=cell1 gh.boxy;have gy:=Hd (Lr (gk.o W6 gi.o).1 (gk.o W6 gi.o).2 HK.o N.hi hy.o.2 y);rw[<- h6.o] at gy;clear gI cs5 cy5 n5 t5 f5 k5 k6 m3 lW5 gh;refine⟨trivial,(CallsIn.inRound l (Zk.2 gy.o)).mono ?_⟩;rintro e W7 ⟨rfl,gO⟩;have lW6:b1+1<W6.heap.size:=(WL.1 t6).1;have t7:=(gO.block (b1+1) lW6).trans t6;have hr:Hq (Wr (fun _=>False) W W7):=Hd (gi.o.trans (Wr.of_below gO (fun _=>False)) (fun _ _ e=>e) (fun _ _ e=>e));have f7:∀ q,W7.frozen? ⟨b1+1,q,none⟩=false:=fun q=>by simp[World.frozen?,t7]
  have k5:W7.cell? ⟨b1+1,5,none⟩=some (.int .i64 (ll:Nat)):=by rw[WQ _ _ 5 _ _ _ t7];rfl
  have k6:W7.cell? ⟨b1+1,6,none⟩=some (.int .i64 (lh:Nat)):=by rw[WQ _ _ 6 _ _ _ t7];rfl
  have k7:W7.cell? ⟨b1+1,7,none⟩=some (.int .i64 0):=by rw[WQ _ _ 7 _ _ _ t7];rfl
  have k8:W7.cell? ⟨b1+1,8,none⟩=some (.int .i64 0):=by rw[WQ _ _ 8 _ _ _ t7];rfl
  have lW7:b1+1<W7.heap.size:=(WL.1 t7).1;clear gO cs6 cy6 t6 gy lW6;obtain⟨W8,gH⟩:=Ex ((W7.setCell ⟨b1+1,7,none⟩ (.int .i64 (hl:Nat))).setCell ⟨b1+1,8,none⟩ (.int .i64 (hh:Nat)));have t8:W8.heap[b1+1]?=some (.cells #[.int .i64 N.id,.int .i64 N.v,.int .i64 N.lo,.int .i64 N.hi,.int .i64 N.refs,.int .i64 (ll:Nat),.int .i64 (lh:Nat),.int .i64 (hl:Nat),.int .i64 (hh:Nat)] 270 (0,0)):=by
   rw[gH];exact Az (k:=8) (Az (k:=7) t7 (.int .i64 (hl:Nat))) (.int .i64 (hh:Nat))
  have ga:Hq (Wr (fun _=>False) W W8):=by rw[gH];exact Hd ((hr.o.setCell (p:=⟨b1+1,7,none⟩) (.inr (by show W.heap.size<=b1+1;omega)) _).setCell (p:=⟨b1+1,8,none⟩) (.inr (by show W.heap.size<=b1+1;omega)) _)
  have g2:=Hd (gl.o W8 ga.o);have g8:=cell1 g2.o.boxg;have r0:W8.cell? ⟨b1+1,0,none⟩=some (.int .i64 N.id):=by rw[WQ _ _ 0 _ _ _ t8];rfl
  have r1:W8.cell? ⟨b1+1,1,none⟩=some (.int .i64 N.v):=by rw[WQ _ _ 1 _ _ _ t8];rfl
  have r2:W8.cell? ⟨b1+1,2,none⟩=some (.int .i64 N.lo):=by rw[WQ _ _ 2 _ _ _ t8];rfl
  have r3:W8.cell? ⟨b1+1,3,none⟩=some (.int .i64 N.hi):=by rw[WQ _ _ 3 _ _ _ t8];rfl
  have r4:W8.cell? ⟨b1+1,4,none⟩=some (.int .i64 N.refs):=by rw[WQ _ _ 4 _ _ _ t8];rfl
  have r5:W8.cell? ⟨b1+1,5,none⟩=some (.int .i64 (ll:Nat)):=by rw[WQ _ _ 5 _ _ _ t8];rfl
  have r6:W8.cell? ⟨b1+1,6,none⟩=some (.int .i64 (lh:Nat)):=by rw[WQ _ _ 6 _ _ _ t8];rfl
  have r7:W8.cell? ⟨b1+1,7,none⟩=some (.int .i64 (hl:Nat)):=by rw[WQ _ _ 7 _ _ _ t8];rfl
  have r8:W8.cell? ⟨b1+1,8,none⟩=some (.int .i64 (hh:Nat)):=by rw[WQ _ _ 8 _ _ _ t8];rfl
  have hQ:Hq (_=W8):=Hd gH.symm;have kb:Hq (b1+1<W8.heap.size):=Hd (WL.1 t8).1;clear gH t8;have tin:tnOf d y i=⟨N,ll,lh,hl,hh⟩:=by
   unfold tnOf;rw[<- HN.o,<- hR.o,<- h6.o]
  have gj:=Hd tin;clear tin
  gi_upto_region 8 with fail
  rw[hQ.o];clear t7 f7 k5 k6 k7 k8 lW7
  by_cases g4:ll≠lh\/hl≠hh
  ·have gJ:Hq (Cb d y p.2=true):=Hd (by rw[<- HI.o];unfold Cb;rw[gj.o];exact XA g4);have n1:((ll:Int) != lh)=true\/((ll:Int) != lh)=false:=by cases ((ll:Int) != lh)<;>simp
   have n2:((ll:Int) != lh)=false->((hl:Int) != hh)=true:=fun e=>by
    have k4:(ll:Int)=lh:=by simpa using e
    have h1:ll=lh:=by omega
    have h2:=g4.resolve_left (fun h=>h h1);simp;omega
   rcases n1 with n1|n1
   ·clear n2
    gi_wp2_with (gi_at_builtin
                 refine IF (wr:=W8) 265 270 9 72 _ underlying265 L4 rfl (by decide) rfl _ _ rfl rfl rfl rfl rfl rfl (by simp[Value.oneCell']) g2.o.row g2.o.lt gS.o (by decide) ?_;intro g1 k1 w1 o1 gm g6 gn;have gR:=Hd gm;have gc:=Hd g6;have gT:=Hd gn;clear gm g6 gn;have g5:=(gc.o.alien (WL.1 g2.o.boxg).1 (g2.o.no _ (by omega))).trans g2.o.boxg;have cg1:=cell1 g5;have fz:∀ k,w1.frozen? ⟨w.heap.size+2,k,none⟩=false:=fun k=>by simp[World.frozen?,g5]
                 clear g8 g5)
    obtain⟨M',a1,a2,a3⟩:=g2.o.add gJ.o (W1:=w1) (v':=.slice (some ⟨g1,0,none⟩) ((Ba d y pre).length+1) k1) (by
     rw[<- HI.o,gj.o,L5];exact gR.o) gc.o gT.o (n:=W0.heap.size) (WU gX ga.o.size)
    exact⟨M',a1,Wr.trans ga.o a2 (fun _ _ e=>e.elim) (fun _ _ e=>e),a3⟩
   ·have n3:=n2 n1;clear n2
    gi_wp2_with (gi_at_builtin
                 refine IF (wr:=W8) 265 270 9 72 _ underlying265 L4 rfl (by decide) rfl _ _ rfl rfl rfl rfl rfl rfl (by simp[Value.oneCell']) g2.o.row g2.o.lt gS.o (by decide) ?_;intro g1 k1 w1 o1 gm g6 gn;have gR:=Hd gm;have gc:=Hd g6;have gT:=Hd gn;clear gm g6 gn;have g5:=(gc.o.alien (WL.1 g2.o.boxg).1 (g2.o.no _ (by omega))).trans g2.o.boxg;have cg1:=cell1 g5;have fz:∀ k,w1.frozen? ⟨w.heap.size+2,k,none⟩=false:=fun k=>by simp[World.frozen?,g5]
                 clear g8 g5)
    obtain⟨M',a1,a2,a3⟩:=g2.o.add gJ.o (W1:=w1) (v':=.slice (some ⟨g1,0,none⟩) ((Ba d y pre).length+1) k1) (by
     rw[<- HI.o,gj.o,L5];exact gR.o) gc.o gT.o (n:=W0.heap.size) (WU gX ga.o.size)
    exact⟨M',a1,Wr.trans ga.o a2 (fun _ _ e=>e.elim) (fun _ _ e=>e),a3⟩
  ·have gJ:Hq (Cb d y p.2=false):=Hd (by rw[<- HI.o];unfold Cb;rw[gj.o];exact X8 g4);have n1:((ll:Int) != lh)=false:=by
    have:ll=lh:=Decidable.byContradiction fun h=>g4 (.inl h)
    simp[this]
   have n2:((hl:Int) != hh)=false:=by
    have:hl=hh:=Decidable.byContradiction fun h=>g4 (.inr h)
    simp[this]
   clear g4
   gi_wp2
   exact⟨M,⟨v,oG,g2.o.skip gJ.o⟩,ga.o.mono (fun _ e=>e.elim),fun k hk=>.inl hk⟩
 ·rintro xs D M W ⟨gb,g0⟩ hD gQ ⟨v,oG,hS⟩ hM hw gv;have g9:=cell1 hS.boxg;have HS:=Hd hS;have k9:=Hd gb;have hW:=Hd g0;have g7:=hS.low;have hX:D<W.heap.size:=(WL.1 gv).1;have hz:=Hd gv;have ka:=Hd gQ;have HF:Hq (∃ (v':Value) (ids:List Nat),Ending.returned v=.returned v'/\ids.Nodup/\(∀ i,i∈ids↔Turns (Aa d) x y i)/\TRow (W.putObj D (.deferred none)) w.heap.size v' (ids.map (tnOf d y))/\Bw w (W.putObj D (.deferred none))):=by
   refine Hd ⟨v,(xs.filter fun p=>Cb d y p.2).map Prod.snd,rfl,?_,fun i=>?_,?_,?_⟩
   ·rw[YV,Yh];have h1:=gb;rw[YV,Yh] at h1;refine(h1.sublist List.filter_sublist).imp_of_mem fun {a b} ha hb hH e=>hH ?_
    have q1:=(HK.o.tab x hx a.1.1 a.1.2 a.2).1 ((g0 a.1 a.2).1 ((XT.1 ha).1));have q2:=(HK.o.tab x hx b.1.1 b.1.2 b.2).1 ((g0 b.1 b.2).1 ((XT.1 hb).1));rw[e,q2] at q1;obtain⟨⟨a1,a2⟩,a3⟩:=a;obtain⟨⟨b1,b2⟩,b3⟩:=b;simp at q1;exact Prod.ext q1.1.symm q1.2.symm
   ·rw[WW];constructor
    . rintro⟨q,hq,rfl⟩;obtain⟨hG,hF⟩:=XT.1 hq;have hn:=(HK.o.tab x hx q.1.1 q.1.2 q.2).1 ((g0 q.1 q.2).1 hG);exact(IT HK.o hn rfl).1 hF
    . intro hT;obtain⟨b,hb,gZ,_⟩:=id hT;have ht:=(HK.o.tab x hx b.lo b.hi i).2 (by rw[hb,<- gZ]);exact⟨((b.lo,b.hi),i),XT.2 ⟨(g0 _ _).2 ht,(IT HK.o hb gZ).2 hT⟩,rfl⟩
   ·have e':((xs.filter fun p=>Cb d y p.2).map Prod.snd).map (tnOf d y)=Ba d y xs:=by unfold Ba;rw[Y7];rfl
    rw[e'];have hY:=L3 (d:=d) (x:=x) (fun lo hi id e=>(HK.o.tab x hx lo hi id).1 e) (n:=1048577) (fun i b e=>by have:=gq.o.tk_lt e;omega) gb (fun k id h=>(g0 k id).1 h);have hd:(Ba d y xs).length<=1048578:=by
     have h1:(Ba d y xs).length<=xs.length:=by unfold Ba;rw[Xy];exact XG _ _
     omega
    obtain⟨ag,cpg,rfl,_⟩:=hS.row.slice;refine⟨hd,ag,cpg,rfl,fun k hk=>?_⟩;obtain⟨g,cp,he,gY,_⟩:=hS.row.shape (by omega);cases he;have hJ:g≠D:=fun e=>gQ ((hS.mm D).2 (.inr (.inr (.inr (e ▸ gY)))))
    refine⟨g,rfl,by have:=(hS.ge g _ gY).2;omega,fun j u hj=>?_⟩;have h9:j<9:=by have:=(Xk.1 hj).1;simpa [tnV,rnV] using this
    have hf:=DL tnV 9 (fun _=>rfl) (Ba d y xs) k j _ (WS hk) h9;have hm:((Ba d y xs).flatMap tnV).length=(Ba d y xs).length*9:=BP _ 9 (fun _=>rfl) _;have hc:=hS.row.cell (k*9+j) (by rw[hm];omega);have gF:W.cell? ⟨g,k*9+j,none⟩=some u:=hc.trans (hf.trans hj);exact(Co gF (XF hJ))
   . exact⟨g7.os,g7.tape,g7.output,by simpa using g7.size,fun q hq=>(XF (by omega)).trans (g7.block q hq)⟩
  clear hS gb g0 gv hM hw gQ g7;go_wp2_with fail;refine⟨by simp,.inl ⟨D,_,rfl,run_takeDeferred hz.o,?_⟩⟩;refine⟨_,results_tmp rfl _ _ _,?_⟩;exact HF.o
structure SwV (d0:Ae)(k x y:Nat):Prop where
 k1:k+1<d0.vars.length
 x:d0.vars.getD k 0=x
 y:d0.vars.getD (k+1) 0=y
section
variable {gone:Nat->Prop}
theorem SwV.facts (s:SwV d0 k x y)(hk:Ai d0 V0):x<d0.vars.length/\y<d0.vars.length/\levN d0 x=k/\levN d0 y=k+1/\x≠y:=by
 obtain⟨a1,a2⟩:=hk.vlt k (by have:=s.k1;omega);obtain⟨c1,c2⟩:=hk.vlt (k+1) s.k1;rw[s.x] at a1 a2;rw[s.y] at c1 c2;exact⟨a1,c1,a2,c2,by rintro rfl;omega⟩
structure CutS (d0:Ae)(k x:Nat)(gone:Nat->Prop)(d:Ae):Prop where
 vars:d.vars=(AY d0 k).vars
 level:d.level=(AY d0 k).level
 pool:d.pool=d0.pool
 counts:d.counts=d0.counts
 dead:d.dead=d0.dead
 tabO:∀ v,v≠x->d.tab v=d0.tab v
 tabX:∀ lo hi id,d.tab x (lo,hi)=some id↔d0.tab x (lo,hi)=some id/\¬ gone id
theorem CutS.start (d0:Ae)(k x:Nat):CutS d0 k x (fun _=>False) (AY d0 k):=⟨rfl,rfl,rfl,rfl,rfl,fun _ _=>rfl,fun lo hi id=>by simp[AY]⟩
theorem CutS.next (c:CutS d0 k x gone d)(hk:Ai d0 V0)(hx:x<d0.vars.length)(hti:d0.tab x (lo,hi)=some i):CutS d0 k x (fun j=>gone j\/j=i) { d with tab:=fun u=>if u=x then putF (d.tab u) (lo,hi) none else d.tab u }:=by
 refine⟨c.vars,c.level,c.pool,c.counts,c.dead,fun v hv=>by dsimp only;rw[WO hv];exact c.tabO v hv,fun lo' g0 id=>?_⟩;dsimp only;rw[WR rfl];unfold putF
 by_cases e:(lo',g0)=(lo,hi)
 ·cases e;rw[WR rfl,hti];constructor
  . intro h;cases h
  . rintro⟨h1,h2⟩;cases h1;exact(h2 (.inr rfl)).elim
 ·rw[WO e,c.tabX];constructor
  ·rintro⟨h1,h2⟩;refine⟨h1,fun h3=>?_⟩;rcases h3 with h3|h3
   . exact h2 h3
   . subst h3;have q1:=(hk.tab x hx _ _ _).1 h1;have q2:=(hk.tab x hx _ _ _).1 hti;rw[q1] at q2;cases q2;exact e rfl
  . rintro⟨h1,h2⟩;exact⟨h1,fun h3=>h2 (.inl h3)⟩
theorem CutS.has (c:CutS d0 k x gone d)(h:d0.tab x (lo,hi)=some i)(hg:¬ gone i):d.tab x (lo,hi)=some i:=(c.tabX _ _ _).2 ⟨h,hg⟩
theorem A1.start (c:CutS d0 k x gone d)(hk:Ai d0 V0)(hx:x<d0.vars.length)(hd:d0.dead=0)(hg:∀ i,Turns (Aa d0) x y i↔gone i){ps:List (Nat×Nat)}(hw:BD (d0.tab x) ps Wt):A1 d0 V0 k x y Wt (Ak d0) (fun _=>False) d V0:=by
 have hn:Aa d=Aa d0:=by unfold Aa;rw[c.pool]
 have he:Ak d=Ak d0:=by unfold Ak;rw[c.pool]
 have hc:Aj d=Aj d0:=by unfold Aj;rw[c.counts]
 refine⟨by rw[hn];exact Bo.start hk.dag x y,c.vars,c.level,by rw[c.pool],he,⟨by rw[hn,hc,c.pool];exact hk.live.cnt,by rw[hn,hc,c.pool,c.dead];exact hk.live.dead,by rw[hn,c.counts];exact hk.live.has⟩,
  fun v hv g0 lo hi id=>by rw[c.tabO v g0,hn];exact hk.tab v hv lo hi id,fun lo hi id=>by rw[c.tabX,hn,hk.tab x hx,hg],by rw[c.counts];exact hk.clen,fun i hT=>?_,?_⟩
 . obtain⟨b,hb,_⟩:=hT;rw[hc];exact Ge hk.live hd hb
 ·rw[c.pool];have:(Wt.filter fun κ=>(d.tab x κ).isSome)=[]:=by
   rw[List.filter_eq_nil_iff];intro κ hκ;cases e:d.tab x κ with
   | none=>simp
   | some id =>
     have h1:=((c.tabX κ.1 κ.2 id).1 e).1;have h2:=hw.free κ hκ;rw[h1] at h2;cases h2
  rw[this];rfl
theorem A1.congr {done done':Nat->Prop}(m:A1 d0 V0 k x y Wt E done d V)(h:∀ i,done i↔done' i):A1 d0 V0 k x y Wt E done' d V:=by
 have e:done=done':=funext fun i=>propext (h i)
 rw[<- e];exact m
theorem RG (s:SwV d0 k x y)(hk:Ai d0 V0)(hl:d0.level.length=d0.vars.length)(v:Nat):(AY d0 k).level.getD v 0=Bm (levN d0) x y v:=by
 obtain⟨hx,hy,lx,ly,g0⟩:=s.facts hk;unfold AY Bm levN;dsimp only;rw[s.x,s.y];unfold levN at lx ly;rw[lx,ly];simp only[List.getD,Xv,Xi]
 by_cases e1:v=x
 . subst e1;rw[WO (X1 g0),WR rfl,WR (by omega),WR rfl];rfl
 ·by_cases e2:v=y
  . subst e2;rw[WR rfl,WR (by omega),WO e1,WR rfl];rfl
  . rw[WO (X1 e2),WO (X1 e1),WO e1,WO e2]
theorem L6 (s:SwV d0 k x y)(i:Nat):(AY d0 k).vars.getD i 0=if i=k then y else if i=k+1 then x else d0.vars.getD i 0:=by
 have h1:=s.k1;unfold AY;dsimp only;rw[s.x,s.y];simp only[List.getD,Xv,Xi]
 by_cases e1:i=k
 . subst e1;rw[WO (by omega),WR rfl,WR (by omega),WR rfl];rfl
 ·by_cases e2:i=k+1
  . subst e2;rw[WR rfl,WR h1,WO e1,WR rfl];rfl
  . rw[WO (X1 e2),WO (X1 e1),WO e1,WO e2]
theorem Gj (d0:Ae)(k:Nat):(AY d0 k).vars.length=d0.vars.length:=by simp[AY]
theorem A1.final {done:Nat->Prop}(m:A1 d0 V0 k x y Wt (Ak d0) done d V)(s:SwV d0 k x y)(hk:Ai d0 V0)(hl:d0.level.length=d0.vars.length)(hall:∀ i,Turns (Aa d0) x y i->done i):Ai d V:=by
 obtain⟨hx,hy,lx,ly,g2⟩:=s.facts hk;have g1:levN d=Bm (levN d0) x y:=by funext v;unfold levN;rw[m.level];exact RG s hk hl v
 have g0:d.vars.length=d0.vars.length:=by rw[m.vars,Gj]
 have g3:=m.mid.final hk.dag hx hy (by omega) hall;have g4:∀ v,v<d0.vars.length->(v=x/\Bm (levN d0) x y v=k+1)\/(v=y/\Bm (levN d0) x y v=k)\/(v≠x/\v≠y/\Bm (levN d0) x y v=levN d0 v/\levN d0 v≠k/\levN d0 v≠k+1):=by
  intro v hv
  by_cases e1:v=x
  . subst e1;exact .inl ⟨rfl,by rw[DZ,ly]⟩
  ·by_cases e2:v=y
   . subst e2;exact .inr (.inl ⟨rfl,by rw[Ea _ g2,lx]⟩)
   . exact .inr (.inr ⟨e1,e2,Ff _ e1 e2,fun h=>e1 (hk.dag.inj v x hv hx (by rw[h,lx])),fun h=>e2 (hk.dag.inj v y hv hy (by rw[h,ly]))⟩)
 refine⟨by rw[g0,g1];exact g3,by rw[m.ext];exact m.live,fun v hv lo hi id=>?_,m.clen,by rw[g0];exact hk.small,fun v hv=>?_,fun i hi=>?_⟩
 ·rw[g0] at hv
  by_cases e:v=x
  . subst e;rw[m.tabX];refine⟨fun h=>h.1,fun h=>⟨h,fun hT=>?_⟩⟩;obtain⟨_,b,hb,g5,_⟩:=m.mid.dn id (hall id hT);rw[h] at hb;cases hb;exact g2 g5
  . exact m.tabO v hv e lo hi id
 ·rw[g0] at hv;rw[g1,m.vars,L6 s];rcases g4 v hv with ⟨rfl,e⟩|⟨rfl,e⟩|⟨_,_,e,h1,h2⟩
  . rw[e,WO (by omega),WR rfl]
  . rw[e,WR rfl]
  . rw[e,WO h1,WO h2];exact hk.inv v hv
 ·rw[g0] at hi ⊢;rw[g1,m.vars,L6 s]
  by_cases e1:i=k
  . rw[WR e1];exact⟨hy,by rw[Ea _ g2,lx,e1]⟩
  ·rw[WO e1]
   by_cases e2:i=k+1
   . rw[WR e2];exact⟨hx,by rw[DZ,ly,e2]⟩
   . rw[WO e2];obtain⟨h1,h2⟩:=hk.vlt i hi;refine⟨h1,?_⟩;rw[Ff _ (fun e=>e1 (by rw[<- h2,e,lx])) (fun e=>e2 (by rw[<- h2,e,ly]))];exact h2
structure Fi (d0:Ae)(V0:Nat->BF)(k:Nat)(d':Ae)(V':Nat->BF):Prop where
 ok:Ai d' V'
 vars:d'.vars=(AY d0 k).vars
 level:d'.level=(AY d0 k).level
 room:d'.pool.room=d0.pool.room
 dead:d'.dead=0
 val:∀ i,(i=0\/∃ b,Aa d0 i=some b)->V' i=V0 i
 live:∀ i b,Aa d0 i=some b->1<=Ak d0 i->∃ b',Aa d' i=some b'
 ext:∀ i b',Aa d' i=some b'->Ak d' i=Ak d0 i
theorem A1.o {done:Nat->Prop}(m:A1 d0 V0 k x y Wt (Ak d0) done d V)(hok:Ai d V)(r:AC d d'):Fi d0 V0 k d' V:=by
 refine⟨r.ok hok,r.vars.trans m.vars,r.level.trans m.level,r.room.trans m.room,r.dead,m.mid.ext,fun i b hb he=>?_,fun i b' g0=>by rw[r.ext i b' g0,m.ext]⟩;obtain⟨b',g0⟩:=m.mid.has hb;refine⟨b',?_⟩;rw[r.nodes,WR (hok.live.cnt.pos_of_ext g0 (by rw[m.ext];exact he))];exact g0
end
section
variable {done:Nat->Prop}{o:Own}
structure SwF (d0:Ae)(V0:Nat->BF)(k x y:Nat):Prop where
 v:SwV d0 k x y
 ok:Ai d0 V0
 lev:d0.level.length=d0.vars.length
 top:∀ i,Ak d0 i<=549755813888
theorem SwF.facts (f:SwF d0 V0 k x y):x<d0.vars.length/\y<d0.vars.length/\levN d0 x=k/\levN d0 y=k+1/\x≠y:=f.v.facts f.ok
theorem A1.acy (m:A1 d0 V0 k x y Wt E done d V)(f:SwF d0 V0 k x y):Acy (Aa d) (rkSw d0.vars.length (levN d0) (Aa d0) x y (Aa d)):=by
 obtain⟨hx,hy,lx,ly,g0⟩:=f.facts;exact Rr f.ok.dag hx (by omega) m.mid
theorem A1.vlen (m:A1 d0 V0 k x y Wt E done d V):d.vars.length=d0.vars.length:=by rw[m.vars,Gj]
theorem L7 (h:Chg RCnt o o' w w'):Chg Al o o' w w':=h.mono I0
theorem L8 (st:Ay o w sb d)(hlt:Ab o w)(f:SwF d0 V0 k x y)(m:A1 d0 V0 k x y Wt E done d V)(he:midE d0.vars.length (levN d0) (Aa d0) (Aa d) x y e)(hE:∀ i,E i<=549755813898) :
 Calls prog 163 #[Pt sb,.int .i64 e] w fun q w'=>q=.returned (.tuple #[])/\∃ d',Ay o w' sb d'/\Ab o w'/\A1 d0 V0 k x y Wt (addE E e 1) done d' V/\Aa d'=Aa d/\d'.pool=d.pool/\Chg Al o o w w':=by
 obtain⟨s,st⟩:=st;obtain⟨hx,hy,lx,ly,g0⟩:=f.facts;have ho:=Lu m.mid he;refine(Iy o sb s _ (2*(d0.vars.length-levN d0 x)) w d E e ⟨st,hlt,m.acy f,ho,m.live,fun q b _=>?_,?_⟩).mono ?_
 ·have h1:=hE q;have h2:toE e q<=1:=by unfold toE;split<;>omega
  omega
 ·rcases ho with h0|⟨c,hc⟩
  . exact .inl h0
  . right;have:=Lw f.ok.dag hx (by omega) m.mid he hc;omega
 . rintro q w' ⟨cs,dd,rfl,h1,h2,h3,h4,_,h6⟩;exact⟨rfl,_,⟨s,h1⟩,hlt.mono h6.size,m.counts h2 h3 h4 (WM _),rfl,rfl,L7 h6⟩
theorem L9 (st:Ay o w sb d)(hlt:Ab o w)(f:SwF d0 V0 k x y)(m:A1 d0 V0 k x y Wt E done d V){b:BN}(hb:Aa d0 i=some b)(hbx:b.v=x)(he:e=b.lo\/e=b.hi)(hE:∀ i,E i<=549755813898)(hp:∀ i,0<=E i-toE e i) :
 Calls prog 162 #[Pt sb,.int .i64 e] w fun q w'=>q=.returned (.tuple #[])/\∃ d',Ay o w' sb d'/\Ab o w'/\A1 d0 V0 k x y Wt (addE E e (-1)) done d' V/\Chg Al o o w w':=by
 obtain⟨s,st⟩:=st;obtain⟨hx,hy,lx,ly,g3⟩:=f.facts;have g1:okE (Aa d0) e:=by rcases he with rfl|rfl;exact f.ok.dag.okLo _ _ hb;exact f.ok.dag.okHi _ _ hb
 have g2:levN d0 b.v<lvE d0.vars.length (levN d0) (Aa d0) e:=by rcases he with rfl|rfl;exact f.ok.dag.lvLo _ _ hb;exact f.ok.dag.lvHi _ _ hb
 have ho:=E4 m.mid g1;have g6:=st.pool.top;have g4:=st.pool.room;refine(Iz o sb s _ (2*(d0.vars.length-levN d0 x)) w d E e ⟨st,hlt,m.acy f,ho,m.live,fun q c hc=>?_,fun q _ _=>hp q,?_⟩).mono ?_
 . have h1:=m.live.cnt.le hc;have h2:=hE q;omega
 ·rcases g1 with h0|⟨c0,g0⟩
  . exact .inl h0
  ·right;rw[Fh g0,hbx] at g2;have g5:=f.ok.dag.lt _ (f.ok.dag.var _ _ g0);rcases ho with h0|⟨c,hc⟩
   . rw[h0,f.ok.dag.none0] at g0;cases g0
   ·rcases IV m.mid g0 hc with ⟨_,hv,_⟩|⟨_,_,h3,_⟩
    . rw[hv] at g2;omega
    . omega
 . rintro q w' ⟨cs,dd,rfl,h1,h2,h3,h4,_,h6⟩;exact⟨rfl,_,⟨s,h1⟩,hlt.mono h6.size,m.counts h2 h3 h4 (WM _),L7 h6⟩
theorem IZ (st:Ay o w sb d)(hlt:Ab o w)(hk:Ai d V) :
 Calls prog 185 #[Pt sb] w fun q w'=>q=.returned (.int .i64 d.dead)/\∃ o' d',Ay o' w' sb d'/\Ab o' w'/\AC d d'/\Chg Al o o' w w':=by
 by_cases h0:d.dead=0
 . refine(Lg st h0).mono ?_;rintro q w' ⟨rfl,hb⟩;obtain⟨s,st⟩:=st;exact⟨by rw[h0];rfl,o,d,⟨s,st.below hlt hb⟩,hlt.mono hb.size,AC.none hk h0,Chg.of_below hb _ _⟩
 . exact Lh st hlt hk h0
end
section
variable {o:Own}
structure Box (o:Own)(w:Wd)(b:Nat)(O:Obj):Prop where
 blk:w.heap[b]?=some O
 no:o b=none
theorem Box.chg {O:Obj}(h:Box o w b O)(hc:Chg R o o' w w'):Box o' w' b O :=
 ⟨(hc.alien (WL.1 h.blk).1 h.no).trans h.blk,hc.alien' (WL.1 h.blk).1 h.no⟩
theorem Box.cell {b:Nat}{cs:Array Value}{T:TypeId}(h:Box o w b (.cells cs T (0,0)))(i:Nat):w.cell? ⟨b,i,none⟩=cs[i]?:=WQ w b i _ _ _ h.blk
theorem Box.other {O:Obj}{p:Addr}(h:Box o w b O)(hne:b≠p.block):Box o (w.setCell p u) b O:=⟨(Aw hne _).trans h.blk,h.no⟩
theorem Box.set {cs:Array Value}(h:Box o w b (.cells cs T (0,0)))(i:Nat)(u:Value):Box o (w.setCell ⟨b,i,none⟩ u) b (.cells (cs.setIfInBounds i u) T (0,0)) :=
 ⟨Az h.blk u,h.no⟩
theorem TRow.chg {base:Nat}(h:TRow w base v ts)(hc:Chg R o o' w w')(hn:0<ts.length->∀ g,v.ownBlock=some g->o g=none):TRow w' base v ts:=by
 by_cases hp:0<ts.length
 . exact h.keep fun g _ hg hv=>hc.alien hg (hn hp g hv)
 . obtain⟨a,c,h1,_⟩:=h.ex;exact⟨h.small,a,c,h1,fun k hk=>by omega⟩
theorem TRow.blk {base:Nat}(h:TRow w base v ts)(hp:0<ts.length):∀ g,v.ownBlock=some g->base<=g/\g<w.heap.size:=by
 obtain⟨a,c,rfl,h1⟩:=h.ex;obtain⟨g0,rfl,hb,hc⟩:=h1 0 hp;intro g hg;cases hg;exact⟨hb,Ag (hc 0 _ rfl)⟩
end
structure RndI (sb:Nat)(o1:Own)(w1:Wd)(base:Nat)(v:Value)(ts:List TN)(W:Wd)(o:Own)(d:Ae):Prop where
 st:Ay o W sb d
 lt:Ab o W
 row:TRow W base v ts
 no:0<ts.length->∀ g,v.ownBlock=some g->o g=none
 chg:Chg Al o1 o w1 W
section
variable {o:Own}{base:Nat}
theorem RndI.move (h:RndI sb o1 w1 base v ts W o d)(st:Ay o' W' sb d')(lt:Ab o' W')(hc:Chg R o o' W W')(hR:∀ r,R r->Al r):RndI sb o1 w1 base v ts W' o' d' :=
 ⟨st,lt,h.row.chg hc h.no,fun hp g hg=>hc.alien' (h.row.blk hp g hg).2 (h.no hp g hg),h.chg.trans (hc.mono hR)⟩
theorem RndI.below (h:RndI sb o1 w1 base v ts W o d)(hb:Bw W W'):RndI sb o1 w1 base v ts W' o d :=
 h.move (R:=Al) (h.st.below h.lt hb) (h.lt.mono hb.size) (Chg.of_below hb _ _) (fun _ h=>h)
theorem RndI.write (h:RndI sb o1 w1 base v ts W o d)(hb:o b=none)(h1:w1.heap.size<=b)(hv:∀ g,0<ts.length->v.ownBlock=some g->g≠b)(i:Nat)(u:Value):RndI sb o1 w1 base v ts (W.setCell ⟨b,i,none⟩ u) o d:=by
 refine⟨h.st.keepR (fun g r hg _=>Aw (by rintro rfl;rw[hb] at hg;cases hg) _) (fun _ _ h=>h),h.lt.mono (by simp[World.setCell]),?_,h.no,h.chg.setCell_new h1 u⟩
 by_cases hp:0<ts.length
 . exact h.row.keep fun g _ _ hg=>Aw (hv g hp hg) _
 . obtain⟨a,c,h2,_⟩:=h.row.ex;exact⟨h.row.small,a,c,h2,fun k hk=>by omega⟩
end
section
variable {done:Nat->Prop}
theorem RH (E:Nat->Int)(a b lo hi:Nat):addE (addE (addE (addE (addE (addE E lo 1) hi 1) a 1) b 1) lo (-1)) hi (-1)=addE (addE E a 1) b 1:=by
 funext i;unfold addE;omega
theorem RI (E:Nat->Int)(a b:Nat):addE (addE (addE (addE E a 1) b 1) a (-1)) b (-1)=E:=by
 funext i;unfold addE;omega
theorem RJ {n:RN}(hk:i<d.pool.at_.length)(ht:d.pool.tk i=true):Aa { d with pool:=d.pool.setNd i n }=setN (Aa d) i (bnOf n):=by
 funext j;unfold Aa setN;rw[Ad.setNd_get hk ht]
 by_cases e:j=i
 . rw[WR e,WR e];rfl
 . rw[WO e,WO e]
theorem RK {n:RN}(hk:i<d.pool.at_.length)(ht:d.pool.tk i=true)(he:(n.refs:Int)=Ak d i):Ak { d with pool:=d.pool.setNd i n }=Ak d:=by
 funext j;have hb:Ak d i=((d.pool.nd i).refs:Int):=CR ht;unfold Ak;have h1:(d.pool.setNd i n).tk j=d.pool.tk j:=rfl;have h2:(d.pool.setNd i n).nd j=if j=i then n else d.pool.nd j:=De hk j
 dsimp only;rw[h1,h2]
 by_cases e:j=i
 . subst e;rw[WR rfl,he,hb]
 . rw[WO e]
theorem A1.turned {b:BN}{n:RN}(m:A1 d0 V0 k x y Wt (addE (addE (Ak d0) lo 1) hi 1) done d V)(f:SwF d0 V0 k x y)(hT:Turns (Aa d0) x y i)(hd:¬ done i)(hb:Aa d0 i=some b)
 (hlo:midE d0.vars.length (levN d0) (Aa d0) (Aa d) x y lo) (hhi:midE d0.vars.length (levN d0) (Aa d0) (Aa d) x y hi) (hr:hi%2=0) (hne:lo≠hi) (hV:V0 i=iteF y (ef V hi) (ef V lo))
 (hn:bnOf n=⟨y,lo,hi⟩) (hrf:(n.refs:Int)=Ak d0 i) (hk:i<d.pool.at_.length) :
 d.tab y (lo,hi)=none/\A1 d0 V0 k x y Wt (addE (addE (Ak d0) b.lo 1) b.hi 1) (fun j=>done j\/j=i) { d with pool:=d.pool.setNd i n,tab:=fun u=>if u=y then putF (d.tab y) (lo,hi) (some i) else d.tab u } V:=by
 obtain⟨hx,hy,lx,ly,g0⟩:=f.facts;have g1:Aa d i=some b:=m.mid.keep i b hb hd;have ht:=(BA g1).1;refine⟨m.fresh_y f.ok.dag g0 hy hT hd hV,?_⟩;have h1:=m.set (p':=d.pool.setNd i n) g0 f.ok.dag hy hT hd hb hlo hhi hr hne hV (by rw[RJ hk ht,hn]) (RK hk ht (by rw[hrf,m.ext])) rfl rfl (by simp[Ad.setNd]);rw[RH] at h1;have e:(fun u=>if u=y then putF (d.tab u) (lo,hi) (some i) else d.tab u)=(fun u=>if u=y then putF (d.tab y) (lo,hi) (some i) else d.tab u):=by
  funext u;by_cases e:u=y
  . subst e;rfl
  . rw[WO e,WO e]
 rw[e] at h1;exact h1
end
theorem RL {o:Own}{base:Nat}(h:RndI sb o1 w1 base v ts W o d)(st:Ao o W sb d s){n:RN}(ht:d.pool.tk n.id=true){O1 O2:Obj}{b1 b2:Nat}(x1:Box o W b1 O1)(x2:Box o W b2 O2) :
 Calls prog 161 #[Pt s.pb,Am n] W fun e w'=>∃ q,e=.returned q/\(q=.int .i64 0/\RndI sb o1 w1 base v ts w' o { d with pool:=d.pool.setNd n.id n }/\Ao o w' sb { d with pool:=d.pool.setNd n.id n } s/\Box o w' b1 O1/\Box o w' b2 O2):=by
 refine(Ic o s.pb d.pool n W st.pool h.lt ht).mono ?_;rintro e w' ⟨rfl,hp,hc,g0⟩;have st':=st.setPool h.lt hp (hc.mono (fun r hr=>by simp[Bg,hr]));exact⟨_,rfl,rfl,h.move ⟨s,st'⟩ g0 hc I1,st',x1.chg hc,x2.chg hc⟩
theorem RM {o:Own}{base:Nat}(h:RndI sb o1 w1 base v ts W o d)(st:Ao o W sb d s)(hy:y<s.ts.length)(hf:d.tab y (lo,hi)=none){O1 O2:Obj}{b1 b2:Nat}(x1:Box o W b1 O1)(x2:Box o W b2 O2) :
 Calls prog 193 #[.pointer (some ⟨s.ts.getD y 0,0,none⟩),.int .i64 lo,.int .i64 hi,.int .i64 id] W fun e w'=>∃ q,e=.returned q/\(q=.int .i64 0/\RndI sb o1 w1 base v ts w' o { d with tab:=fun u=>if u=y then putF (d.tab y) (lo,hi) (some id) else d.tab u }/\Box o w' b1 O1/\Box o w' b2 O2):=by
 refine(Kt o y (s.ts.getD y 0) (d.tab y) lo hi id W (st.tab y hy) h.lt hf).mono ?_;rintro e w' ⟨rfl,ht,hc,g0⟩;have st':=st.setTab h.lt ht hc;exact⟨_,rfl,rfl,h.move ⟨s,st'⟩ g0 hc (fun r hr=>by simp[Al,hr]),x1.chg hc,x2.chg hc⟩
structure Ja (d0:Ae)(V0:Nat->BF)(x y i:Nat)(b:BN):Prop where
 node:Aa d0 i=some b
 v:b.v=x
 lo:(d0.pool.nd i).lo=b.lo
 hi:(d0.pool.nd i).hi=b.hi
 id:(d0.pool.nd i).id=i
 val:IW d0 V0 x y i (tnOf d0 y i).ll (tnOf d0 y i).lh (tnOf d0 y i).hl (tnOf d0 y i).hh
 ne:(tnOf d0 y i).ll≠(tnOf d0 y i).lh\/(tnOf d0 y i).hl≠(tnOf d0 y i).hh
theorem RO {o:Own}(f:SwF d0 V0 k x y)(h:Ao o w sb d0 s)(hT:Turns (Aa d0) x y i):∃ b,Ja d0 V0 x y i b:=by
 obtain⟨hx,hy,lx,ly,g2⟩:=f.facts;obtain⟨b,hb,g0,g3⟩:=id hT;obtain⟨ht,g1,he⟩:=BA hb;rw[g1] at he;have e1:(d0.pool.nd i).lo=b.lo:=by rw[<- he];rfl
 have e2:(d0.pool.nd i).hi=b.hi:=by rw[<- he];rfl
 refine⟨b,hb,g0,e1,e2,h.pool.id i ht,?_,?_⟩
 . have:=Rw f.ok hy (by omega) hb g0;unfold tnOf;rw[e1,e2];exact this
 . have:=(IT f.ok hb g0).2 hT;unfold Cb at this;exact YR this
structure Fj (d0:Ae)(V0:Nat->BF)(k x y:Nat)(Wt:List (Nat×Nat))(done:Nat->Prop)(i:Nat)(r1 r2:Nat)(d:Ae)(V:Nat->BF):Prop where
 mid:A1 d0 V0 k x y Wt (Ak d0) done d V
 e1:midE d0.vars.length (levN d0) (Aa d0) (Aa d) x y r1
 e2:midE d0.vars.length (levN d0) (Aa d0) (Aa d) x y r2
 reg:r2%2=0
 ne:r1≠r2
 val:V0 i=iteF y (ef V r2) (ef V r1)
theorem Fj.of {done:Nat->Prop}{r1 r2:Nat}{d1 d2:Ae}{V1 V2:Nat->BF}{b:BN}(f:SwF d0 V0 k x y)(t:Ja d0 V0 x y i b)
 (h1:C0 d0 V0 k x y Wt done d V (tnOf d0 y i).ll (tnOf d0 y i).hl r1 d1 V1) (h2:C0 d0 V0 k x y Wt done d1 V1 (tnOf d0 y i).lh (tnOf d0 y i).hh r2 d2 V2):Fj d0 V0 k x y Wt done i r1 r2 d2 V2:=by
 obtain⟨hx,hy,lx,ly,g0⟩:=f.facts;obtain⟨k1,k2⟩:=h2.keep r1 h1.edge;obtain⟨q1,q2⟩:=Rx (V:=V2) f.ok hx hy g0 (by omega) t.val t.ne (k2.trans h1.val) h2.val;exact⟨h2.mid,k1,h2.edge,h2.reg t.val.reg,q2,q1⟩
theorem LC {done:Nat->Prop}(m:A1 d0 V0 k x y Wt E done d V)(f:SwF d0 V0 k x y)(hw:BD (d0.tab x) ps Wt)(hp:(lo,hi)∈ps)
 (hlo:lowE d0.vars.length (levN d0) (Aa d0) y lo) (hhi:lowE d0.vars.length (levN d0) (Aa d0) y hi) (hne:lo≠hi) (ht:d.tab x (bkey lo hi)=none):bkey lo hi∈Wt:=by
 obtain⟨hx,hy,lx,ly,g3⟩:=f.facts;refine hw.has (lo,hi) hp hne ?_
 show d0.tab x (bkey lo hi)=none
 cases e:d0.tab x (bkey lo hi) with
 | none=>rfl
 | some id =>
   exfalso;have hb:=(f.ok.tab x hx _ _ id).1 e;have low:∀ {e:Nat},lowE d0.vars.length (levN d0) (Aa d0) y e->¬ isV (Aa d0) y e:=by
    rintro e ⟨_,h2⟩ ⟨c,hc,g1⟩;rw[Fh hc,g1] at h2;omega
   by_cases hT:Turns (Aa d0) x y id
   ·obtain⟨b,g0,g4,g2⟩:=hT;rw[hb] at g0;cases g0;rcases g2 with h|h
    . exact low (D9 hlo) h
    . exact low (D9 hhi) h
   . have h1:=(m.tabX (bkey lo hi).1 (bkey lo hi).2 id).2 ⟨m.mid.keep id _ hb (fun hd=>hT (m.mid.dn id hd).1),hT⟩;rw[show ((bkey lo hi).1,(bkey lo hi).2)=bkey lo hi from rfl,ht] at h1;cases h1
section
variable {F:Phi}{o:Own}
theorem RP (h:Ay o w sb d):Calls prog 188 #[Pt sb] w (Sm (.int .i64 d.pool.room) w):=by
 obtain⟨s,h⟩:=h;obtain⟨c0,c1,c2,c3,c4,f0⟩:=cells5 h.blk;have HP:=Hd (OT o s.pb d.pool w h.pool);clear h
 delta Pt;go_enter func188,ntmps188
 go_wp2_with fail;refine HP.o.mono ?_;rintro x w' ⟨rfl,rfl⟩;go_wp2_with fail;go_ret;exact⟨rfl,rfl⟩
end
section
variable {F:Phi}{o:Own}
theorem RQ (h:Ay o w sb d):Calls prog 189 #[Pt sb] w (Sm (.int .i64 d.pool.many) w):=by
 obtain⟨s,h⟩:=h;obtain⟨c0,c1,c2,c3,c4,f0⟩:=cells5 h.blk;have HP:=Hd (OS o s.pb d.pool w h.pool);clear h
 delta Pt;go_enter func189,ntmps189
 go_wp2_with fail;refine HP.o.mono ?_;rintro x w' ⟨rfl,rfl⟩;go_wp2_with fail;go_ret;exact⟨rfl,rfl⟩
end
end Go.Proofs.YtgmbklaolcmljaaGreat
