/- Several texts in one file: contracts of the program's functions and what follows from them. -/
import Derived.Test.YtkidaindpahefaaGreatX3
import Derived.Laws.Tables
import Derived.Ground.Names2Prog
import Derived.Shelf.Slices.Delete
import Derived.Shelf.Slices.Cells
import Derived.Shelf.Slices.Empties
import Derived.Test.YtkidaindpahefaaGreatProg
import Derived.Maps.RangeRun
import Derived.Shelf.SlSortCmp.WholeK
import Derived.Shelf.SlicesG.Cmp
import Derived.Shelf.SlGeneric
import Derived.Ground.SlsfProg
import Derived.Ground.SlgcProg
set_option linter.unusedSimpArgs false
set_option linter.unusedVariables false
set_option linter.unusedSectionVars false
set_option linter.unnecessarySimpa false
set_option maxRecDepth 100000
set_option maxHeartbeats 8000000
namespace Go.Proofs.YtkidaindpahefaaGreat
open Go.Proofs.Tryz
open Go.RowKit
variable {C D:Nat->Prop}{F G H:BF}{K:Law}{L:Array Bool}{Od:List Nat->Prop}{P:Program}{Q:Exit->Act->Wd->Prop}{S:Wd->Prop}{V:Nat->BF}{W W' w w' w0 w1:Wd}{a:Act}{args cs:Array Value}{b f i id j k k' mb n room:Nat}{ev:Ev}{fs:List (Int×BF)}{kf kg kh nx:Int}{l:List Oper}{lim:Option Nat}{m m':ManD}{pl:List Nat}{t:TypeId}{v:Value}{ws ws0:List Ev}{xs:List Int}
section
variable {R:List PanicEntry->Wd->Prop}{m:Nat}
def PP (R:List PanicEntry->Wd->Prop)(Q:Exit->Act->Wd->Prop):Exit->Act->Wd->Prop
 | .panic c,a,w=>a.defers=[]/\R c w
 | e,a,w=>Q e a w
theorem Q0 (a:Act)(d:Option Nat)(v:Value):(a.put d v).defers=a.defers:=by cases d<;>rfl
theorem Q1 (c:List PanicEntry)(a:Act)(d:Option Nat)(v:Value)(w:Wd)(h:PP R Q (.panic c) (a.put d v) w):PP R Q (.panic c) a w:=⟨(Q0 a d v).symm.trans h.1,h.2⟩
theorem Q2 {s:Code}(hR:∀ c (a:Act) w,a.defers=[]->R c w->Q (.panic c) a w)(h:s.wp P (PP R Q) a w):s.wp P Q a w :=
 Code.wp_mono (fun e a w h=>by cases e<;>first|exact h|exact hR _ _ _ h.1 h.2) h
structure CZ (P:Program)(l:List Oper)(Q:Exit->Act->Wd->Prop)(R:List PanicEntry->Wd->Prop)(S:Wd->Prop)(m f:Nat)(L:Array Bool)(a:Act)(w:Wd):Prop where
 goes:Closed l.toArray L->S w->D4 P l.toArray (PP R Q) S m f L a w
theorem KY (S:Wd->Prop)(R:List PanicEntry->Wd->Prop)(m:Nat)(hR:∀ c (a:Act) w,a.defers=[]->R c w->Q (.panic c) a w)(hm:P.follows .mixedOrders=true)(hS:S w.drew)
 (h:CZ P l Q R S m l.length (Array.replicate l.toArray.size false) a w.drew):(Code.region id l.toArray true).wp P Q a w :=
 Q2 hR (wp_region_any hm (Fv _ _ _ _ (h.goes (GA _) hS)))
theorem Q3 (i:Nat)(o:Oper)(v:Value)(hi:l[i]?=some o)
 (hB:(Region.noSelect l.toArray&&(Region.ready .any l.toArray L).contains i&&Region.free .any l.toArray L i&&(decide (l.toArray.size<=m)||reaches l.toArray l.toArray.size i m))=true)
 (hy:∀ w,S w->YieldsIf P l.toArray S o v a) (h:CZ P l Q R S m f (L.setIfInBounds i true) (a.put o.dst v) w):CZ P l Q R S m (f+1) L a w:=by
 refine⟨fun hc hS=>?_⟩;simp only[Wq] at hB;obtain⟨⟨⟨hs,hr⟩,hf⟩,hm⟩:=hB;have g1:l.toArray[i]?=some o:=by simpa using hi
 have g0:i∈Region.ready .any l.toArray L:=by simpa using hr
 exact GB g1 hs Q1 hm f L a w hc (Region.free_spec g1 hf) g0 (hy w hS) hS (h.goes (hc.set g0) hS)
theorem Da (i:Nat){o:Oper}(hi:l[i]?=some o)(hg:o.guard=none)
 (hB:(Region.noSelect l.toArray&&(Region.ready .any l.toArray L).contains i&&Region.free .any l.toArray L i&&(decide (l.toArray.size<=m)||reaches l.toArray l.toArray.size i m))=true)
 (h:∃ v,(∀ w,S w->(execOp a.eval o).run P w=.ok (.value v) w)/\CZ P l Q R S m f (L.setIfInBounds i true) (a.put o.dst v) w):CZ P l Q R S m (f+1) L a w:=by
 obtain⟨v,h1,h2⟩:=h;exact Q3 i o v hi hB (fun w _=>.inl ⟨by simp[Region.wanted,hg],h1⟩) h2
theorem DB (is:List Nat)(hr:(decide (Region.ready .any l.toArray L=is) && !is.isEmpty)=true)
 (h:∀ i∈is,S w->∀ o,l[i]?=some o->Region.wanted o (yielded l.toArray a.tmps)=true/\o.wp P a w (fun a' w'=>S w'/\CZ P l Q R S m f (L.setIfInBounds i true) a' w') (PP R Q)):CZ P l Q R S m (f+1) L a w:=by
 refine⟨fun hc hS=>?_⟩;simp only[Wq,WH] at hr;obtain⟨hr,g1⟩:=hr;refine⟨fun h0=>(by rw[h0] at hr;subst hr;simp at g1),fun i hi=>?_⟩;have g2:i∈is:=by rw[<- hr];exact hi
 obtain⟨_,o,ho,_⟩:=mem_ready.1 hi;obtain⟨hw,g0⟩:=h i g2 hS o (by simpa using ho);unfold wpOp;rw[ho];simp only[hw,Wy];left;refine Oper.wp_mono ?_ g0;intro a' w' ⟨h1,h2⟩;exact⟨.inr h1,h2.goes (hc.set hi) h1⟩
theorem KZ (hr:(Region.ready .any l.toArray L).isEmpty=true)(h:Q .normal a w):CZ P l Q R S m 0 L a w :=
 ⟨fun _ _=>⟨by simpa [Yl] using hr,h⟩⟩
end
theorem La {o:Oper}{K:Act->Wd->Prop}{f:FuncId}{R:Value->Wd->Prop}{R2:List PanicEntry->Wd->Prop}(he:(execOp a.eval o).run P w=.ok (.enter f args) w)
 (hc:Calls P f args w fun e w'=>(∃ v,e=.returned v/\R v w')\/(∃ ch,e=.panicked ch/\R2 ch w')) (h:∀ v w',R v w'->K (a.put o.dst v) w') (h2:∀ ch w',R2 ch w'->Q (.panic ch) a w'):o.wp P a w K Q:=by
 unfold Oper.wp;simp only[he,Oper.upon];refine hc.mono fun e w' hh=>?_
 rcases hh with ⟨v,h1,h3⟩|⟨ch,h1,h3⟩
 . subst h1;exact h v w' h3
 . subst h1;exact h2 ch w' h3
abbrev C3 (bf bg bh:Nat):Nat->Prop:=fun k=>k=bf\/k=bg\/k=bh
structure B3 (bf bg bh:Nat)(kf kg kh:Int)(W:Wd):Prop where
 f:W.cell? (Av bf)=some (Iv kf)
 g:W.cell? (Av bg)=some (Iv kg)
 h:W.cell? (Av bh)=some (Iv kh)
theorem B3.keep {bf bg bh:Nat}(W W':Wd)(h:B3 bf bg bh kf kg kh W)(hk:∀ c,C3 bf bg bh c->W'.heap[c]?=W.heap[c]?):B3 bf bg bh kf kg kh W' :=
 ⟨Co h.f (hk _ (.inl rfl)),Co h.g (hk _ (.inr (.inl rfl))),Co h.h (hk _ (.inr (.inr rfl)))⟩
def Bc (F G H:BF):BF:=fun ρ=>iteB (F ρ) (G ρ) (H ρ)
def SatX (K:Law)(n:Nat)(Od:List Nat->Prop)(room:Nat)(w0:Wd)(mb:Nat)(fs:List (Int×BF))(nx:Int)(m:ManD):Prop:=∃ W o V,SatE K n Od room w0 mb fs nx W o m V
def DC (lim:Option Nat)(k:Nat)(m:ManD):Prop:=∀ M,lim=some M->m.d.pool.many<=M+k
def QF (ws0:List Ev)(lim:Option Nat)(k:Nat)(F:BF)(_:Wd)(m':ManD)(V':Nat->BF)(r:Nat):Prop:=ef V' r=F/\m'.waits <:+ ws0/\DC lim k m'
def EF (A:ManD->Prop)(k:Nat)(ws0:List Ev)(er:Int)(m m':ManD):Prop:=er=7/\A m/\m'.d.pool.many=m'.d.pool.room/\m'.d.pool.many+1<=m.d.pool.many+k/\m'.waits <:+ ws0
abbrev EK (ws0:List Ev)(m:ManD):Prop:=m.waits <:+ ws0
abbrev StL (ws0:List Ev)(lim:Option Nat)(m:ManD):Prop:=EK ws0 m/\DC lim 0 m
def EL (A:ManD->Prop)(k:Nat)(ws0:List Ev)(lim:Option Nat)(er:Int)(m m':ManD):Prop:=lim=none/\EF A k ws0 er m m'
def Ec (ws0:List Ev)(lim:Option Nat)(k room:Nat):Prop:=∀ M,lim=some M->ws0=[]/\M+k<=room
theorem Lb (h:Ec ws0 lim k room)(h1:DC lim 0 m)(h2:m'.d.pool.room+1<=m.d.pool.many+k)(h3:m'.d.pool.room=room):lim=none:=by
 cases lim with
 | none=>rfl
 | some M =>
   have:=(h M rfl).2;have:=h1 M rfl;omega
theorem Lc (h:Ec ws0 lim k room)(h1:ev::ws <:+ ws0):DC lim k' m:=fun M e=>by
 have:=(h M e).1;subst this;simp at h1
abbrev Xe:=@Nat.pow_pos
abbrev VM:=@List.mem_cons_self
theorem Q4 (hK:AO K)(ws0:List Ev)(lim:Option Nat)(hlim:Ec ws0 lim (2^n-1) room)(hhap:∀ ev∈ws0,HapG K n Od room w0 mb fs nx ev)(bf bg bh:Nat)(hf:(kf,F)∈fs)(hg:(kg,G)∈fs)(hh:(kh,H)∈fs) :
 OpG K n Od room w0 mb fs nx (C3 bf bg bh) (B3 bf bg bh kf kg kh) (StL ws0 lim) 146 #[Pt bf,Pt bg,Pt bh] (QF ws0 lim (2^n-1) (Bc F G H)) (EL (SatX K n Od room w0 mb fs nx) (2^n-1) ws0 lim):=by
 intro o W m V xb g0 hB hC g1 g7 hnx;obtain⟨f,hf,ef1⟩:=g0.find hf;obtain⟨g,hg,ef2⟩:=g0.find hg;obtain⟨h,hh,ef3⟩:=g0.find hh;have hk:=g0.ok;have g8:=g0.lt;have gd:=hk.store;obtain⟨s,hm⟩:=g0.is;have g2:Bw W W.drew:=Am W 1;have g6:=hm.below g8 g2;have ga:=g8.mono g2.size;have g5:BK o W.drew xb mb:=⟨(g2.cell (p:=Av xb) (Af g7.cell)).trans g7.cell,g7.own⟩;have df:=(g2.cell (p:=Av bf) (Af hB.f)).trans hB.f;have dg:=(g2.cell (p:=Av bg) (Af hB.g)).trans hB.g;have dh:=(g2.cell (p:=Av bh) (Af hB.h)).trans hB.h;have of:=(hC bf (.inl rfl)).2;have og:=(hC bg (.inr (.inl rfl))).2;have oh:=(hC bh (.inr (.inr rfl))).2;have gj:=Hd (FG ⟨s,g6⟩ g5 hk.handles.nodup hf);have gi:=Hd (FG ⟨s,g6⟩ g5 hk.handles.nodup hg);have gh:=Hd (FG ⟨s,g6⟩ g5 hk.handles.nodup hh);have ge:=Hd (PM hK n o W.drew xb mb m V f g h ⟨s,g6⟩ ga g5 gd (hk.handles.ok _ hf) (hk.handles.ok _ hg) (hk.handles.ok _ hh) (by rw[g0.vars];omega));obtain⟨P,hP⟩:∃ P:Ending->Wd->Prop,P=fun e w'=>∃ (o':Own) (m':ManD) (V':Nat->BF),C8 (C3 bf bg bh) K o W mb m V o' w' m' V'/\B3 bf bg bh kf kg kh w' /\
  ((∃ r:Nat,e=.returned (Iv r)/\okE (Aa m'.d) r/\QF ws0 lim (2^n-1) (Bc F G H) w' m' V' r) \/
   (∃ er:Int,e=AV er false ev0/\er≠0/\m'.waits=m.waits/\StL ws0 lim m'/\EL (SatX K n Od room w0 mb fs nx) (2^n-1) ws0 lim er m m') \/
   (∃ ev,e=AV 0 true ev/\m.waits=ev::m'.waits/\StE K n Od room w0 mb fs nx (StL ws0 lim) m'/\HapG K n Od room w0 mb fs nx ev)):=⟨_,rfl⟩
 have gf:Hq (∀ e w',KE K n o W.drew mb m V f g h e w'->(∃ v,e=.returned v/\(w'.cell? (Av bf)=some (Iv kf)/\w'.cell? (Av bg)=some (Iv kg)/\w'.cell? (Av bh)=some (Iv kh))/\P (.returned v) w')\/(∃ ch,e=.panicked ch/\P (.panicked ch) w')):=by
  refine Hd ?_;subst hP;rintro e w' ⟨o',m',V',st,g9⟩;have g3:B3 bf bg bh kf kg kh w':=⟨st.chg.cell df of,st.chg.cell dg og,st.chg.cell dh oh⟩;have stx:C8 (C3 bf bg bh) K o W mb m V o' w' m' V':=Step.toX (K:=K) ⟨st.is,st.lt,(Chg.of_below g2 _ o).trans st.chg,st.ok,st.ext,st.hs,st.next⟩ _;have hp2:0<2^n:=Xe (by omega);rcases g9 with ⟨r,rfl,h1,h2,h3⟩|⟨rfl,h2,h3,h4⟩|⟨ev,rfl,h1⟩
  . refine .inl ⟨_,rfl,⟨g3.f,g3.g,g3.h⟩,o',m',V',stx,g3,.inl ⟨r,rfl,h1.okR,?_,by rw[h2];exact g1.1,fun M e=>by have:=g1.2 M e;omega⟩⟩;have e1:=(st.ext.ef (hk.handles.ok _ hf)).trans ef1;have e2:=(st.ext.ef (hk.handles.ok _ hg)).trans ef2;have e3:=(st.ext.ef (hk.handles.ok _ hh)).trans ef3;dsimp only at e1 e2 e3;funext ρ;rw[h1.val ρ,e1,e2,e3];rfl
  . have gc:lim=none:=Lb hlim g1.2 (by rw[<- h3];omega) (by rw[st.ext.room];exact g0.room);exact .inr ⟨_,rfl,o',m',V',stx,g3,.inr (.inl ⟨7,rfl,by omega,h2,⟨by unfold EK;rw[h2];exact g1.1,by subst gc;exact fun M e=>by cases e⟩,gc,rfl,⟨_,_,_,g0⟩,h3,by omega,by rw[h2];exact g1.1⟩)⟩
  ·refine .inr ⟨_,rfl,o',m',V',stx,g3,.inr (.inr ⟨ev,rfl,h1,?_,?_⟩)⟩
   all_goals
    have g4:m.waits <:+ ws0:=g1.1;rw[h1] at g4
    first|exact fun _ _ _ _ _ e _ _=>⟨by unfold EK;rw[e];exact(List.suffix_cons ev m'.waits).trans g4,Lc hlim g4⟩|exact hhap ev (g4.subset (VM ..))
 rw[<- hP];clear hm gd hk g7 hB hC g1 hnx hhap hlim hK g8 hf hg hh of og oh g6 ga g5 g2 g0 hP ef1 ef2 ef3
 go_enter func146,ntmps146
 go_upto_region 1 with fail;refine KY (fun W:Wd=>W.cell? (Av bf)=some (Iv kf)/\W.cell? (Av bg)=some (Iv kg)/\W.cell? (Av bh)=some (Iv kh)) (fun ch w'=>P (.panicked ch) w') 12 (fun c a w hd h=>⟨hd,h⟩) (by kernel_rfl) ⟨df,dg,dh⟩ ?_;refine Da 0 rfl rfl (by kernel_rfl) ?_;apply Exists.intro;refine⟨fun w' hw=>?_,?_⟩
 . obtain⟨q1,q2,q3⟩:=hw;go_simp;rfl
 simp only[Ab];refine Da 1 rfl rfl (by kernel_rfl) ?_;apply Exists.intro;refine⟨fun w' hw=>?_,?_⟩
 . obtain⟨q1,q2,q3⟩:=hw;go_simp;rfl
 simp only[Ab];refine Da 2 rfl rfl (by kernel_rfl) ?_;apply Exists.intro;refine⟨fun w' hw=>?_,?_⟩
 . obtain⟨q1,q2,q3⟩:=hw;go_simp;rfl
 simp only[Ab];refine Da 4 rfl rfl (by kernel_rfl) ?_;apply Exists.intro;refine⟨fun w' hw=>?_,?_⟩
 . obtain⟨q1,q2,q3⟩:=hw;go_simp;rfl
 simp only[Ab];refine Da 5 rfl rfl (by kernel_rfl) ?_;apply Exists.intro;refine⟨fun w' hw=>?_,?_⟩
 . obtain⟨q1,q2,q3⟩:=hw;go_simp;rfl
 simp only[Ab];refine Da 7 rfl rfl (by kernel_rfl) ?_;apply Exists.intro;refine⟨fun w' hw=>?_,?_⟩
 . obtain⟨q1,q2,q3⟩:=hw;go_simp;rfl
 simp only[Ab];refine Da 8 rfl rfl (by kernel_rfl) ?_;apply Exists.intro;refine⟨fun w' hw=>?_,?_⟩
 . obtain⟨q1,q2,q3⟩:=hw;go_simp;rfl
 simp only[Ab];refine DB [3] (by kernel_rfl) (fun i hi hS o ho=>?_);simp only[CC] at hi;subst hi;simp only[C5] at ho;subst ho;refine⟨rfl,?_⟩;refine CY (v:=Iv (f:Nat)) (R:=fun w'=>W.drew=w') (by go_simp) gj.o ?_;rintro w' rfl;refine⟨⟨df,dg,dh⟩,?_⟩;simp only[Ab];refine DB [6] (by kernel_rfl) (fun i hi hS o ho=>?_);simp only[CC] at hi;subst hi;simp only[C5] at ho;subst ho;refine⟨rfl,?_⟩;refine CY (v:=Iv (g:Nat)) (R:=fun w'=>W.drew=w') (by go_simp) gi.o ?_;rintro w' rfl;refine⟨⟨df,dg,dh⟩,?_⟩;simp only[Ab];refine DB [9] (by kernel_rfl) (fun i hi hS o ho=>?_);simp only[CC] at hi;subst hi;simp only[C5] at ho;subst ho;refine⟨rfl,?_⟩;refine CY (v:=Iv (h:Nat)) (R:=fun w'=>W.drew=w') (by go_simp) gh.o ?_;rintro w' rfl;refine⟨⟨df,dg,dh⟩,?_⟩;simp only[Ab];refine DB [10] (by kernel_rfl) (fun i hi hS o ho=>?_);simp only[CC] at hi;subst hi;simp only[C5] at ho;subst ho;refine⟨rfl,?_⟩;refine La (R:=fun v w'=>(w'.cell? (Av bf)=some (Iv kf)/\w'.cell? (Av bg)=some (Iv kg)/\w'.cell? (Av bh)=some (Iv kh))/\P (.returned v) w') (R2:=fun ch w'=>P (.panicked ch) w') (by go_simp) (ge.o.mono gf.o) ?_ ?_
 ·rintro v w' ⟨hS,g1⟩;refine⟨hS,?_⟩;have gg:=Hd g1;clear g1;simp only[Ab];refine Da 11 rfl rfl (by kernel_rfl) ?_;apply Exists.intro;refine⟨fun w' hw=>?_,?_⟩
  . go_simp;rfl
  simp only[Ab];refine KZ (by kernel_rfl) ?_;clear hS df dg dh;go_wp2_with fail;exact gg.o
 . intro ch w' g1;exact⟨rfl,g1⟩
abbrev C1 (b:Nat):Nat->Prop:=fun k=>k=b
structure B1 (b:Nat)(v:Int)(W:Wd):Prop where
 c:W.cell? (Av b)=some (Iv v)
theorem B1.keep {v:Int}(W W':Wd)(h:B1 b v W)(hk:∀ c,C1 b c->W'.heap[c]?=W.heap[c]?):B1 b v W':=⟨Co h.c (hk _ rfl)⟩
theorem Q5 (hK:AO K)(ws0:List Ev)(lim:Option Nat)(hlim:Ec ws0 lim 1 room)(hhap:∀ ev∈ws0,HapG K n Od room w0 mb fs nx ev)(v vb:Nat)(hv:v<n) :
 OpG K n Od room w0 mb fs nx (C1 vb) (B1 vb v) (StL ws0 lim) 144 #[Pt vb] (QF ws0 lim 1 (varF v)) (EL (SatX K n Od room w0 mb fs nx) 1 ws0 lim):=by
 intro o W m V xb g1 hB hC g0 hx hnx;have hk:=g1.ok;have g9:=g1.lt;have g2:=hk.store;have o0:okE (Aa m.d) 0:=.inl rfl;have o1:okE (Aa m.d) 1:=.inl rfl;have g4:lvE m.d.vars.length (levN m.d) (Aa m.d) 0=m.d.vars.length:=Ie g2 rfl;have gd:lvE m.d.vars.length (levN m.d) (Aa m.d) 1=m.d.vars.length:=Ie g2 rfl;have g8:v<m.d.vars.length:=by rw[g1.vars];exact hv
 have gc:=g2.dag.lt v g8;have gf:=Hd (KD hK g1.is g9 hx g2 v 1 0 o1 o0);have cvb:=hB.c;have ob:=(hC vb rfl).2;obtain⟨P,hP⟩:∃ P:Ending->Wd->Prop,P=fun e w'=>∃ (o':Own) (m':ManD) (V':Nat->BF),C8 (C1 vb) K o W mb m V o' w' m' V'/\B1 vb v w' /\
  ((∃ r:Nat,e=.returned (Iv r)/\okE (Aa m'.d) r/\QF ws0 lim 1 (varF v) w' m' V' r) \/
   (∃ er:Int,e=AV er false ev0/\er≠0/\m'.waits=m.waits/\StL ws0 lim m'/\EL (SatX K n Od room w0 mb fs nx) 1 ws0 lim er m m') \/
   (∃ ev,e=AV 0 true ev/\m.waits=ev::m'.waits/\StE K n Od room w0 mb fs nx (StL ws0 lim) m'/\HapG K n Od room w0 mb fs nx ev)):=⟨_,rfl⟩
 have ga:Hq (∀ e w',FE K o W mb m V v 1 0 e w'->(∃ r:Nat,e=.returned (Iv r)/\P (.returned (Iv r)) w')\/(∃ er evt ev,e=AV er evt ev/\P (AV er evt ev) w')):=by
  refine Hd ?_;subst hP;rintro e w' ⟨o',m',V',st,g7⟩;have g5:B1 vb v w':=⟨st.chg.cell cvb ob⟩;have stx:C8 (C1 vb) K o W mb m V o' w' m' V':=st.toX _;rcases g7 with ⟨ev,h1,_,_,_,_,rfl⟩|⟨h1,_,_,(⟨er,ge,hd,_,rfl⟩|⟨_,_,r,rfl,h2,h3,_,h5⟩)⟩
  ·refine .inr ⟨0,true,ev,rfl,o',m',V',stx,g5,.inr (.inr ⟨ev,rfl,h1,?_,?_⟩)⟩
   all_goals
    have g3:m.waits <:+ ws0:=g0.1;rw[h1] at g3
    first|exact fun _ _ _ _ _ e _ _=>⟨by unfold EK;rw[e];exact(List.suffix_cons ev m'.waits).trans g3,Lc hlim g3⟩|exact hhap ev (g3.subset (VM ..))
  ·refine .inr ⟨er,false,ev0,rfl,o',m',V',stx,g5,.inr (.inl ?_)⟩;rcases ge with ⟨_,h⟩|⟨_,_,_,h⟩|⟨rfl,h⟩
   . exact(h ⟨by omega,by omega⟩).elim
   . simp only[Int.toNat_natCast] at h;omega
   . have g4:lim=none:=Lb (m':=m') hlim g0.2 (by rw[hd];omega) (by rw[st.ext.room];exact g1.room);exact⟨7,rfl,by omega,h1,⟨by unfold EK;rw[h1];exact g0.1,by subst g4;exact fun M e=>by cases e⟩,g4,rfl,⟨_,_,_,g1⟩,by rw[hd];exact h,by rw[hd];omega,by rw[h1];exact g0.1⟩
  . refine .inl ⟨r,rfl,o',m',V',stx,g5,.inl ⟨r,rfl,h2,?_,by rw[h1];exact g0.1,fun M e=>by have:=g0.2 M e;omega⟩⟩;rw[h3];funext ρ;have a0:=DW g2.dag.one ρ;have a1:=DX g2.dag.one ρ;simp only[iteF,varF,Int.toNat_natCast,a0,a1];cases ρ v<;>rfl
 rw[<- hP];clear g2 o0 o1 g4 gd gc g8 hk hx hC hK hv g9 hB hnx g0 hP ob g1 hlim
 go_enter func144,ntmps144
 go_wp2_with fail;refine gf.o.mono ?_;intro e w' hp;rcases ga.o e w' hp with ⟨r,rfl,g0⟩|⟨er,evt,ev,rfl,g0⟩
 . have g6:=Hd g0;clear hp g0;go_wp2_with fail;exact g6.o
 . have g6:=Hd g0;clear hp g0;unfold AV;go_wp2_with fail;exact⟨rfl,g6.o⟩
def Dt (K:Law)(n:Nat)(Od:List Nat->Prop)(room:Nat)(w0:Wd)(mb:Nat)(fs:List (Int×BF))(nx:Int)(ws0:List Ev)(lim:Option Nat)(k:Nat)(F:BF)(o:Own)(w:Wd)(x:Ending)(w':Wd):Prop :=
 ∃ o' m' V',ChgX NoB o o' w w'/\m'.waits <:+ ws0/\((x=.returned (.tuple #[Iv nx,Iv 0])/\DC lim k m'/\SatE K n Od room w0 mb (fs++[(nx,F)]) (nx+1) w' o' m' V') \/
  (x=.returned (.tuple #[Iv 0,Iv 7])/\lim=none/\SatE K n Od room w0 mb fs nx w' o' m' V'/\∃ m0,SatX K n Od room w0 mb fs nx m0/\m0.d.dead=0/\room+1<=m0.d.pool.many+k))
theorem StL.coll (m:ManD)(d:Ae)(h:StL ws0 lim m)(r:AK m.d d):StL ws0 lim { m with d:=d }:=⟨h.1,fun M e=>by have:=h.2 M e;have:=r.many;show d.pool.many<=M+0;omega⟩
theorem Ld {o:Own}{B:Wd->Prop}{x:Ending}(hb:Bw w w1)(hC:∀ c,C c->w.heap.size<=c)
 (h:Is K n Od room w0 mb fs nx C B (QF ws0 lim k F) (EL (SatX K n Od room w0 mb fs nx) k ws0 lim) o w1 x w'):Dt K n Od room w0 mb fs nx ws0 lim k F o w x w':=by
 obtain⟨o',m',V',_,hc,g0⟩:=h;have g1:ChgX NoB o o' w w':=(ChgX.of_below hb o NoB).trans hc (fun k hk e=>by have:=hC k e;omega);rcases g0 with ⟨r,m1,rfl,hs,⟨q1,q2,q4⟩,_,_,_,_,q5,q3,_⟩|⟨er,m0,_,rfl,hs,⟨g3,rfl,g2,h1,h2,h3⟩,h7⟩
 . exact⟨o',m',V',g1,by rw[q3];exact q2,.inl ⟨rfl,fun M e=>by rw[q5];exact q4 M e,by rw[<- q1];exact hs⟩⟩
 . refine⟨o',m',V',g1,h3,.inr ⟨rfl,g3,hs,m0,g2,h7 rfl,?_⟩⟩;have:=hs.room;omega
theorem Le (hK:AO K){o:Own}(h:SatE K n Od room w0 mb fs nx w o m V)(ws0:List Ev)(hws:m.waits <:+ ws0)(lim:Option Nat)(hlim:Ec ws0 lim (2^n-1) room)(hl0:DC lim 0 m)(hhap:∀ ev∈ws0,HapG K n Od room w0 mb fs nx ev)(hn:nx<1099511627776)
 {kf kg kh:Int} {F G H:BF} (hf:(kf,F)∈fs) (hg:(kg,G)∈fs) (hh:(kh,H)∈fs) :
 Cl 94 #[Pt mb,Iv kf,Iv kg,Iv kh] w (Dt K n Od room w0 mb fs nx ws0 lim (2^n-1) (Bc F G H) o w):=by
 have g1:∀ (fn:Fn) (first cap:Array Value) (w:Wd),(Instr.makeFunc fn first cap).run prog w=.ok (.func fn first cap) w:=fun _ _ _ _=>rfl
 obtain⟨hb,cf,cg,ch⟩:=Qf kf kg kh w;have hw0:=h.chg.size;have hz:(box3 kf kg kh w).heap.size=w.heap.size+3:=by simp[box3]
 have g0:Hq (Cl 143 #[Pt mb,.func (.func 146) #[] #[Pt w.heap.size,Pt (w.heap.size+1),Pt (w.heap.size+1+1)]] (box3 kf kg kh w) (Dt K n Od room w0 mb fs nx ws0 lim (2^n-1) (Bc F G H) o w)):=by
  refine Hd ?_;refine(KX hK B3.keep (fun _ _ _ _ _ h _=>h) StL.coll ?_ Qe (Q4 hK ws0 lim hlim hhap w.heap.size (w.heap.size+1) (w.heap.size+1+1) hf hg hh) (h.below hb) ⟨cf,cg,ch⟩ ?_ ⟨hws,hl0⟩ hn).mono fun x w' hp=>Ld hb ?_ hp
  . rintro c (rfl|rfl|rfl)<;>omega
  . rintro c (rfl|rfl|rfl)<;>exact⟨by omega,h.lt.none (by omega)⟩
  . rintro c (rfl|rfl|rfl)<;>omega
 have HW:Hq (_=box3 kf kg kh w):=Hd (show ((w.alloc (.cells #[Iv kf] 3)).alloc (.cells #[Iv kg] 3)).alloc (.cells #[Iv kh] 3)=box3 kf kg kh w from rfl);clear h hK hws hhap hn hf hg hh hb cf cg ch hw0 hz hlim hl0;obtain⟨P,hP⟩:=Ex (Dt K n Od room w0 mb fs nx ws0 lim (2^n-1) (Bc F G H) o w);rw[<- hP] at g0 ⊢;have HT:Hq (∀ x w',P x w'->∃ a b,x=.returned (.tuple #[Iv a,Iv b])):=by
  refine Hd ?_;subst hP;rintro x w' ⟨_,_,_,_,_,(⟨rfl,_⟩|⟨rfl,_⟩)⟩
  . exact⟨_,_,rfl⟩
  . exact⟨_,_,rfl⟩
 clear hP
 go_enter func94,ntmps94
 go_wp2_with fail;rw[HW.o];refine g0.o.mono ?_;intro x w' hd;obtain⟨a,b,rfl⟩:=HT.o x w' hd;have HD:=Hd hd;clear hd;go_wp2_with fail;exact HD.o
theorem Lf (hK:AO K){o:Own}(h:SatE K n Od room w0 mb fs nx w o m V)(ws0:List Ev)(hws:m.waits <:+ ws0)(lim:Option Nat)(hlim:Ec ws0 lim 1 room)(hl0:DC lim 0 m)(hhap:∀ ev∈ws0,HapG K n Od room w0 mb fs nx ev)(hn:nx<1099511627776)
 (v:Nat) (hv:v<n) :
 Cl 93 #[Pt mb,Iv v] w (Dt K n Od room w0 mb fs nx ws0 lim 1 (varF v) o w):=by
 have gc:∀ (fn:Fn) (first cap:Array Value) (w:Wd),(Instr.makeFunc fn first cap).run prog w=.ok (.func fn first cap) w:=fun _ _ _ _=>rfl
 obtain⟨w1,g0⟩:=Ex (w.alloc (.cells #[Iv (v:Nat)] 3));have g1:Bw w w1:=by rw[g0];exact Ah w _
 have g5:w1.heap[w.heap.size]?=some (.cells #[Iv (v:Nat)] 3 (0,0)):=by rw[g0];exact Vv w _
 have cvb:w1.cell? (Av w.heap.size)=some (Iv (v:Nat)):=cell1 g5;have g8:w1.heap.size=w.heap.size+1:=by rw[g0];simp
 have hw0:=h.chg.size;obtain⟨s,g6⟩:=h.is;have g3:=g6.below h.lt g1;obtain⟨c0,c1,c2,c3,c4,c5,f0⟩:=cells6 g3.blk;obtain⟨ss,g2⟩:=g3.store;have g7:Cy m.d v=(levN m.d v:Nat):=KB (by rw[g2.len,h.vars];exact hv);have g9:Hq (∀ n,Cl 142 #[Pt s.sb,Iv (v:Nat)] (w1.drewN n) fun x w'=>x=.returned (Iv (levN m.d v:Nat))/\w1.drewN n=w'):=by
  refine Hd fun n=>?_
  have:=Ib (g2.below (h.lt.mono g1.size) (Am w1 n)) v (by rw[g2.len];have:=h.ok.store.small;omega);rw[g7] at this;exact this
 obtain⟨P,hP⟩:=Ex (Dt K n Od room w0 mb fs nx ws0 lim 1 (varF v) o w);have ga:Hq (∀ q,Cl 143 #[Pt mb,.func (.func 144) #[] #[Pt w.heap.size]] (w1.drewN q) P):=by
  refine Hd fun q=>?_
  rw[hP];have g4:Bw w (w1.drewN q):=g1.trans ((Am w1 q).mono g1.size);refine(KX hK B1.keep (fun _ _ _ _ _ h _=>h) StL.coll ?_ Qc (Q5 hK ws0 lim hlim hhap v w.heap.size hv) (h.below g4) ⟨cvb⟩ ?_ ⟨hws,hl0⟩ hn).mono fun x w' hp=>Ld g4 ?_ hp
  . rintro c rfl;omega
  . rintro c rfl;exact⟨by have:=g4.size;show w.heap.size<w1.heap.size;omega,h.lt.none (by omega)⟩
  . rintro c rfl;omega
 have HT:Hq (∀ x w',P x w'->∃ a b,x=.returned (.tuple #[Iv a,Iv b])):=by
  refine Hd ?_;rw[hP];rintro x w' ⟨_,_,_,_,_,(⟨rfl,_⟩|⟨rfl,_⟩)⟩
  . exact⟨_,_,rfl⟩
  . exact⟨_,_,rfl⟩
 rw[<- hP];have HW:Hq (w.alloc (.cells #[Iv (v:Nat)] 3)=w1):=Hd g0.symm;clear g3 g2 g7 g6 g1 g5 g0 hK hn hv hws hhap h hw0 g8 hP hlim hl0
 go_enter func93,ntmps93
 go_upto_region 3 with fail;rw[HW.o]
 go_quiet (with_reducible exact BI (g9.o _))
 go_wp2_with fail;refine(ga.o _).mono ?_;intro x w' hd;obtain⟨a,b,rfl⟩:=HT.o x w' hd;have HD:=Hd hd;clear hd;go_wp2_with fail;exact HD.o
section
variable {R:List PanicEntry->Wd->Prop}
def Nx (_:List Nat)(P:Program)(l:List Oper)(Q:Exit->Act->Wd->Prop)(R:List PanicEntry->Wd->Prop)(S:Wd->Prop)(f:Nat)(L:Array Bool)(a:Act)(w:Wd):Prop:=CZ P l Q R S l.length f L a w
theorem FL (pl:List Nat)(S:Wd->Prop)(R:List PanicEntry->Wd->Prop)(hR:∀ c (a:Act) w,a.defers=[]->R c w->Q (.panic c) a w)(hm:P.follows .mixedOrders=true)(hS:S w.drew)
 (h:Nx pl P l Q R S l.length (Array.replicate l.toArray.size false) a w.drew):(Code.region id l.toArray true).wp P Q a w:=KY S R l.length hR hm hS h
theorem Ed {o:Oper}(hi:l[i]?=some o)(hg:o.guard=none)
 (hB:(Region.noSelect l.toArray&&(Region.ready .any l.toArray L).contains i&&Region.free .any l.toArray L i)=true)
 (h:∃ v,(∀ w,S w->(execOp a.eval o).run P w=.ok (.value v) w)/\Nx pl P l Q R S f (L.setIfInBounds i true) (a.put o.dst v) w):Nx (i::pl) P l Q R S (f+1) L a w :=
 Da _ hi hg (by rw[hB];simp) h
theorem Q6 {o:Oper}{g:FuncId}{R1:Value->Wd->Prop}(hi:l[i]?=some o)(hr:decide (Region.ready .any l.toArray L=[i])=true)
 (hg:Region.wanted o (yielded l.toArray a.tmps)=true) (hd:a.defers=[]) (he:(execOp a.eval o).run P w=.ok (.enter g args) w)
 (hc:Calls P g args w fun e w'=>(∃ v,e=.returned v/\S w'/\R1 v w')\/(∃ ch,e=.panicked ch/\R ch w'))
 (h:∀ v w',S w'->R1 v w'->Nx pl P l Q R S f (L.setIfInBounds i true) (a.put o.dst v) w'):Nx (i::pl) P l Q R S (f+1) L a w:=by
 refine DB [i] (by rw[Wq];exact⟨hr,rfl⟩) fun j g1 hS o2 g0=>?_
 rw[VB] at g1;subst g1;rw[hi] at g0;cases g0;refine⟨hg,?_⟩;refine La (R:=fun v w'=>S w'/\R1 v w') (R2:=R) he (hc.mono ?_) (fun v w' hh=>⟨hh.1,h v w' hh.1 hh.2⟩) (fun ch w' hh=>⟨hd,hh⟩);rintro e w' (⟨v,h1,h2⟩|hh)
 . exact .inl ⟨v,h1,h2⟩
 . exact .inr hh
theorem It {o:Oper}{g:FuncId}{R1:Value->Wd->Prop}(hi:l[i]?=some o)(hr:decide (Region.ready .any l.toArray L=[i])=true)
 (hg:Region.wanted o (yielded l.toArray a.tmps)=true) (hd:a.defers=[]) (he:(execOp a.eval o).run P w=.ok (.enter g args) w)
 (hc:Calls P g args w fun e w'=>∃ v,e=.returned v/\R1 v w') (hS:∀ v w',R1 v w'->S w')
 (h:∀ v w',S w'->R1 v w'->Nx pl P l Q R S f (L.setIfInBounds i true) (a.put o.dst v) w'):Nx (i::pl) P l Q R S (f+1) L a w :=
 Q6 hi hr hg hd he (hc.mono fun e w' ⟨v,h1,h2⟩=>.inl ⟨v,h1,hS v w' h2,h2⟩) h
theorem Lg {o:Oper}{s x:Operand}(hi:l[i]?=some o)(hr:decide (Region.ready .any l.toArray L=[i])=true)
 (hg:Region.wanted o (yielded l.toArray a.tmps)=true) (ho:o.op=.store t s x) (hs:(Instr.storeAt t (a.eval s) (a.eval x)).run P w=.ok () w') (hS:S w')
 (h:Nx pl P l Q R S f (L.setIfInBounds i true) (a.put o.dst undef) w'):Nx (i::pl) P l Q R S (f+1) L a w:=by
 refine DB [i] (by rw[Wq];exact⟨hr,rfl⟩) fun j g1 _ o2 g0=>?_
 rw[VB] at g1;subst g1;rw[hi] at g0;cases g0;exact⟨hg,Ks ho hs ⟨hS,h⟩⟩
theorem FM (hr:(Region.ready .any l.toArray L).isEmpty=true)(h:Q .normal a w):Nx [] P l Q R S 0 L a w:=KZ hr h
end
theorem Lh (args:Array Value)(w:Wd):(callFunc 150 args).run prog w=.ok (.enter 150 args) w:=XS func150 (by kernel_rfl) rfl args w
structure PuC where
 bn:Nat
 bo:Nat
 bm:Nat
 bp:Nat
def PuC.caps (c:PuC):Array Value:=#[Pt c.bn,Pt c.bo,Pt c.bm,Pt c.bp]
def PuC.wr (c:PuC)(k:Nat):Prop:=k=c.bo\/k=c.bm
def rowV (L:List (List Int))(i:Nat):Int:=at0 (L.getD (i/4) []) (i%4)
structure PuS (c:PuC)(n:Nat)(L:List (List Int))(W:Wd):Prop where
 n:W.heap[c.bn]?=some (.cells #[Iv (n:Nat)] 3 (0,0))
 o:∃ cs,W.heap[c.bo]?=some (.cells cs 131 (0,0))/\cs.size=96/\∀ i,i<96->cs[i]?=some (Iv (rowV L i))
 m:W.heap[c.bm]?=some (.cells #[Iv (L.length:Nat)] 3 (0,0))
 p:W.cell? (Av c.bp)=some (.func (.func 150) #[] c.caps)
 ne:c.bo≠c.bn/\c.bo≠c.bm/\c.bo≠c.bp/\c.bm≠c.bn/\c.bm≠c.bp
section
variable {c:PuC}{L:List (List Int)}
theorem PuS.below (h:PuS c n L W)(hb:Bw W W'):PuS c n L W':=by
 obtain⟨cs,h1,h2,h3⟩:=h.o;exact⟨(hb.block _ (Vr.1 h.n).1).trans h.n,⟨cs,(hb.block _ (Vr.1 h1).1).trans h1,h2,h3⟩,(hb.block _ (Vr.1 h.m).1).trans h.m,(hb.cell (Af h.p)).trans h.p,h.ne⟩
theorem PuS.other (h:PuS c n L W)(hw:Wr D W W')(hD:∀ k,D k->k≠c.bn/\k≠c.bo/\k≠c.bm/\k≠c.bp):PuS c n L W':=by
 obtain⟨cs,h1,h2,h3⟩:=h.o;have hk:∀ {q:Nat},q<W.heap.size->(∀ k,D k->k≠q)->W'.heap[q]?=W.heap[q]?:=fun hq g0=>hw.keep _ hq fun e=>g0 _ e rfl
 exact⟨(hk (Vr.1 h.n).1 fun k e=>(hD k e).1).trans h.n,⟨cs,(hk (Vr.1 h1).1 fun k e=>(hD k e).2.1).trans h1,h2,h3⟩,(hk (Vr.1 h.m).1 fun k e=>(hD k e).2.2.1).trans h.m,(Wl (w:=W) (hk (Af h.p) fun k e=>(hD k e).2.2.2)).trans h.p,h.ne⟩
theorem PuS.snoc (h:PuS c n L W)(hl:L.length<24){b:List Int}:PuS c n (L++[b]) ((((((W.setCell (Aw c.bo (L.length*4)) (Iv (at0 b 0))).setCell (Aw c.bo (L.length*4+1)) (Iv (at0 b 1))).setCell (Aw c.bo (L.length*4+2)) (Iv (at0 b 2))).setCell (Aw c.bo (L.length*4+3)) (Iv (at0 b 3)))).setCell (Av c.bm) (Iv ((L.length:Nat)+1))):=by
 obtain⟨cs,h1,h2,h3⟩:=h.o;obtain⟨n1,n2,n3,n4,n5⟩:=h.ne;have hw:Wr (fun k=>k=c.bo) W ((((W.setCell (Aw c.bo (L.length*4)) (Iv (at0 b 0))).setCell (Aw c.bo (L.length*4+1)) (Iv (at0 b 1))).setCell (Aw c.bo (L.length*4+2)) (Iv (at0 b 2))).setCell (Aw c.bo (L.length*4+3)) (Iv (at0 b 3))) :=
  ((((Wr.refl (fun k=>k=c.bo) W).setCell (p:=Aw c.bo _) (.inl rfl) _).setCell (p:=Aw c.bo _) (.inl rfl) _).setCell (p:=Aw c.bo _) (.inl rfl) _).setCell (p:=Aw c.bo _) (.inl rfl) _
 have hb:=A2 (k:=L.length*4+3) (A2 (k:=L.length*4+2) (A2 (k:=L.length*4+1) (A2 (k:=L.length*4) h1 (Iv (at0 b 0))) (Iv (at0 b 1))) (Iv (at0 b 2))) (Iv (at0 b 3));obtain⟨W1,g4⟩:=Ex (((((W.setCell (Aw c.bo (L.length*4)) (Iv (at0 b 0))).setCell (Aw c.bo (L.length*4+1)) (Iv (at0 b 1))).setCell (Aw c.bo (L.length*4+2)) (Iv (at0 b 2))).setCell (Aw c.bo (L.length*4+3)) (Iv (at0 b 3))));rw[<- g4] at hw hb ⊢;have hk:∀ {q:Nat},q<W.heap.size->q≠c.bo->W1.heap[q]?=W.heap[q]?:=fun hq g1=>hw.keep _ hq g1
 have g3:Wr (fun k=>k=c.bm) W1 (W1.setCell (Av c.bm) (Iv ((L.length:Nat)+1))):=(Wr.refl (fun k=>k=c.bm) W1).setCell (p:=Av c.bm) (.inl rfl) _;have g2:∀ {q:Nat},q<W1.heap.size->q≠c.bm->(W1.setCell (Av c.bm) (Iv ((L.length:Nat)+1))).heap[q]?=W1.heap[q]?:=fun hq g1=>g3.keep _ hq g1
 have hs:=hw.size;have ln:=(Vr.1 h.n).1;have lo:=(Vr.1 h1).1;have lm:=(Vr.1 h.m).1;have lp:=Af h.p;refine⟨(g2 (by omega) n4.symm).trans ((hk ln n1.symm).trans h.n),⟨_,(g2 (by omega) n2).trans hb,by simpa using h2,fun i hi=>?_⟩,?_,(Wl (w:=W) ((g2 (q:=c.bp) (by have:c.bp<W.heap.size:=lp;omega) n5.symm).trans (hk lp n3.symm))).trans h.p,h.ne⟩
 ·have g0:=h3 i hi;unfold rowV at g0 ⊢;have hr:(L++[b]).getD (i/4) []=if i/4=L.length then b else L.getD (i/4) []:=by
   split
   . rename_i e;rw[e];simp[List.getD]
   ·rename_i e
    rcases VE (i/4) L.length with q|q
    . simp[List.getD,VS q]
    . simp[List.getD,show ¬ i/4<L.length+1 by omega,VN,q,show L.length+1<=i/4 by omega]
  rw[hr];simp only[Xq,Array.size_setIfInBounds,h2]
  by_cases e:i/4=L.length
  ·rw[Vw e];rcases(show i%4=0\/i%4=1\/i%4=2\/i%4=3 by omega) with q|q|q|q<;>rw[q]
   . rw[Vs (by omega),Vs (by omega),Vs (by omega),Vw (by omega),Vw (by omega)]
   . rw[Vs (by omega),Vs (by omega),Vw (by omega),Vw (by omega)]
   . rw[Vs (by omega),Vw (by omega),Vw (by omega)]
   . rw[Vw (by omega),Vw (by omega)]
  . rw[Vs e,Vs (by omega),Vs (by omega),Vs (by omega),Vs (by omega)];exact g0
 . have:=A2 (k:=0) ((hk lm n2.symm).trans h.m) (Iv ((L.length:Nat)+1));rw[Vx,WX];exact this
theorem PuS.n0 (h:PuS c n L W):W.cell? (Av c.bn)=some (Iv (n:Nat)):=by rw[Vt _ _ 0 _ _ _ h.n];rfl
theorem PuS.m0 (h:PuS c n L W):W.cell? (Av c.bm)=some (Iv (L.length:Nat)):=by rw[Vt _ _ 0 _ _ _ h.m];rfl
end
def useB (b:List Int)(j:Nat):Bool:=decide ((j:Int)∈b)
def rowA (b:List Int):Value:=.agg #[Iv (at0 b 0),Iv (at0 b 1),Iv (at0 b 2),Iv (at0 b 3)]
def DD (b:List Int):Value:=.agg #[.bool (useB b 0),.bool (useB b 1),.bool (useB b 2),.bool (useB b 3)]
section
variable {c:PuC}{L:List (List Int)}
def PuR (c:PuC)(n:Nat)(L:List (List Int))(W:Wd)(x:Ending)(w':Wd):Prop:=x=.returned (.tuple #[])/\Wr c.wr W w'/\PuS c n L w'
theorem Q7 (h:PuS c n L W)(hl:L.length<24){b:List Int}(hb:b.length=n)(hn4:n<=4):Cl 150 (#[rowA b,Iv (b.length:Nat),DD b]++c.caps) W (PuR c n (L++[b]) W):=by
 obtain⟨bn,bo,bm,bp⟩:=c;obtain⟨w1,g2⟩:=Ex ((W.alloc (.cells #[Iv (at0 b 0),Iv (at0 b 1),Iv (at0 b 2),Iv (at0 b 3)] 130)).alloc (.cells #[.bool (useB b 0),.bool (useB b 1),.bool (useB b 2),.bool (useB b 3)] 187));have g5:Bw W w1:=by rw[g2];exact(Ah _ _).alloc (by simp) _
 have h1:=h.below g5;have k1:w1.heap[W.heap.size]?=some (.cells #[Iv (at0 b 0),Iv (at0 b 1),Iv (at0 b 2),Iv (at0 b 3)] 130 (0,0)):=by
  rw[g2];exact(VL _ _ (by simp)).trans (Vv _ _)
 obtain⟨r0,r1,r2,r3,-⟩:=cells4 k1;have n0:=h1.n0;have m0:=h1.m0;obtain⟨cs,q1,q2,q3⟩:=h1.o;have HO:∀ i,i<96->w1.cell? (Aw bo i)=some (Iv (rowV L i)):=fun i hi=>by rw[Vt _ _ i _ _ _ q1];exact q3 i hi
 have g0:∀ i,w1.frozen? (Aw bo i)=false:=fun i=>by simp[World.frozen?,q1]
 have o0:=HO (L.length*4) (by omega);have o1:=HO (L.length*4+1) (by omega);have o2:=HO (L.length*4+2) (by omega);have o3:=HO (L.length*4+3) (by omega);have f0:=g0 (L.length*4);have f1:=g0 (L.length*4+1);have f2:=g0 (L.length*4+2);have f3:=g0 (L.length*4+3);have gc:(L.length:Int)<24:=by omega
 have ga:=Hd (h1.snoc hl (b:=b));obtain⟨w2,g1⟩:=Ex (((((w1.setCell (Aw bo (L.length*4)) (Iv (at0 b 0))).setCell (Aw bo (L.length*4+1)) (Iv (at0 b 1))).setCell (Aw bo (L.length*4+2)) (Iv (at0 b 2))).setCell (Aw bo (L.length*4+3)) (Iv (at0 b 3))));have g3:Wr (fun k=>k=bo) w1 w2:=by
  rw[g1];exact((((Wr.refl (fun k=>k=bo) w1).setCell (p:=Aw bo _) (.inl rfl) _).setCell (p:=Aw bo _) (.inl rfl) _).setCell (p:=Aw bo _) (.inl rfl) _).setCell (p:=Aw bo _) (.inl rfl) _
 have g7:bm≠bo:=h.ne.2.1.symm;have g4:=(g3.keep bm (Vr.1 h1.m).1 g7).trans h1.m;have p0:w2.cell? (Av bm)=some (Iv (L.length:Nat)):=by rw[Vt _ _ 0 _ _ _ g4];rfl
 have pf:w2.frozen? (Av bm)=false:=by simp[World.frozen?,g4]
 have g6:Hq (PuS ⟨bn,bo,bm,bp⟩ n (L++[b]) (w2.setCell (Av bm) (Iv ((L.length:Nat)+1)))):=Hd (by rw[g1];exact ga.o);have g8:Hq (Wr (PuC.wr ⟨bn,bo,bm,bp⟩) W (w2.setCell (Av bm) (Iv ((L.length:Nat)+1)))):=Hd (((Wr.of_below g5 (PuC.wr ⟨bn,bo,bm,bp⟩)).trans (g3.mono (N:=PuC.wr ⟨bn,bo,bm,bp⟩) fun k e=>.inl e) (fun _ _ e=>e) (fun _ _ e=>e)).setCell (p:=Av bm) (.inl (.inr rfl)) _);have g9:=Hd g1.symm;have gd:((b.length:Int) == (n:Int))=true:=by rw[hb];simp
 have HW1:=Hd g2.symm;clear g2 g1 q1 q2 q3 HO g0 ga h h1 g3 g4 g5 k1 g7;obtain⟨P,hP⟩:=Ex (PuR ⟨bn,bo,bm,bp⟩ n (L++[b]) W:Ending->Wd->Prop);rw[<- hP];have HP:Hq (P (.returned (.tuple #[])) (w2.setCell (Av bm) (Iv ((L.length:Nat)+1)))):=Hd (by rw[hP];exact⟨rfl,g8.o,g6.o⟩);clear hP g8 g6;unfold PuC.caps rowA DD
 show Calls _ _ #[_,_,_,_,_,_,_] _ _
 go_enter func150,ntmps150
 go_upto_region 1 with fail;rw[HW1.o];go_upto_region 2 with fail;go_upto_region 3 with fail;rw[g9.o];clear HW1 g9 o0 o1 o2 o3 f0 f1 f2 f3;go_wp2_with fail;refine VR (WC rfl _ _ _) rfl ?_;exact HP.o
theorem Iu (h:xs.length<=j):at0 xs j=0:=by simp[at0,List.getD,h]
def rowJ (b:List Int)(z:Int)(j:Nat):Value:=Iv (if j=b.length then z else at0 b j)
theorem Q8 {b:List Int}{z v:Int}(h:b.length<4):(#[rowJ b z 0,rowJ b z 1,rowJ b z 2,rowJ b z 3]:Array Value).setIfInBounds b.length (Iv v)=#[rowJ b v 0,rowJ b v 1,rowJ b v 2,rowJ b v 3]:=by
 unfold rowJ;rcases(show b.length=0\/b.length=1\/b.length=2\/b.length=3 by omega) with e|e|e|e<;>rw[e]<;>rfl
theorem Q9 {b:List Int}{v:Int}(j:Nat):rowJ b v j=Iv (at0 (b++[v]) j):=by
 unfold rowJ;congr 1
 by_cases e:j=b.length
 . rw[Vw e,G1 (by omega),e,Nat.sub_self];rfl
 ·rw[Vs e];rcases VE j b.length with h|h
  . rw[G0 h]
  . rw[Iu h,Iu (by simp;omega)]
theorem QA {b:List Int}(j:Nat):rowJ b 0 j=Iv (at0 b j):=by
 unfold rowJ;congr 1;split
 ·rename_i e
  rw[e,Iu (Vu _)]
 . rfl
theorem QB {b:List Int}{v:Nat}(h:v<4):(#[.bool (useB b 0),.bool (useB b 1),.bool (useB b 2),.bool (useB b 3)]:Array Value).setIfInBounds v (.bool true)=#[.bool (useB (b++[(v:Int)]) 0),.bool (useB (b++[(v:Int)]) 1),.bool (useB (b++[(v:Int)]) 2),.bool (useB (b++[(v:Int)]) 3)]:=by
 unfold useB;rcases(show v=0\/v=1\/v=2\/v=3 by omega) with e|e|e|e<;>subst e<;>simp
def CH (k n:Nat)(b:List Int)(v:Nat):List (List Int):=(List.range v).flatMap fun u:Nat=>if (u:Int)∈b then [] else ordR k n (b++[(u:Int)])
theorem Iw (k n:Nat)(b:List Int)(v:Nat):CH k n b (v+1)=CH k n b v++if (v:Int)∈b then [] else ordR k n (b++[(v:Int)]):=by
 unfold CH;rw[XM,Xw];simp
theorem QC (k n:Nat)(b:List Int){v d:Nat}(h:v+d=n):(CH k n b v).length<=(ordR (k+1) n b).length:=by
 show _<=(CH k n b n).length
 rw[<- h];have:∀ m q d,(CH k m b q).length<=(CH k m b (q+d)).length:=fun m q d=>by
  induction d with
  | zero=>exact Vu _
  | succ d ih =>
    rw[show q+(d+1)=q+d+1 by omega,Iw,Vx];omega
 exact this _ v d
abbrev WT:=@beq_eq_false_iff_ne
theorem QD (h:PuS c n L W){b:List Int}(hb:b.length+(k+1)=n)(hn4:n<=4)(hl:L.length+(ordR (k+1) n b).length<=24)
 (IH:∀ b L W,PuS c n L W->b.length+k=n->L.length+(ordR k n b).length<=24->Cl 150 (#[rowA b,Iv (b.length:Nat),DD b]++c.caps) W (PuR c n (L++ordR k n b) W)) :
 Cl 150 (#[rowA b,Iv (b.length:Nat),DD b]++c.caps) W (PuR c n (L++ordR (k+1) n b) W):=by
 obtain⟨bn,bo,bm,bp⟩:=c;obtain⟨w1,g3⟩:=Ex ((W.alloc (.cells #[Iv (at0 b 0),Iv (at0 b 1),Iv (at0 b 2),Iv (at0 b 3)] 130)).alloc (.cells #[.bool (useB b 0),.bool (useB b 1),.bool (useB b 2),.bool (useB b 3)] 187));have ga:Bw W w1:=by rw[g3];exact(Ah _ _).alloc (by simp) _
 have h1:=h.below ga;have k1:w1.heap[W.heap.size]?=some (.cells #[rowJ b 0 0,rowJ b 0 1,rowJ b 0 2,rowJ b 0 3] 130 (0,0)):=by
  simp only[QA];rw[g3];exact(VL _ _ (by simp)).trans (Vv _ _)
 have k2:w1.heap[W.heap.size+1]?=some (.cells #[.bool (useB b 0),.bool (useB b 1),.bool (useB b 2),.bool (useB b 3)] 187 (0,0)):=by
  have:=Vv (W.alloc (.cells #[Iv (at0 b 0),Iv (at0 b 1),Iv (at0 b 2),Iv (at0 b 3)] 130)) (.cells #[.bool (useB b 0),.bool (useB b 1),.bool (useB b 2),.bool (useB b 3)] 187);rw[VK,<- g3] at this;exact this
 obtain⟨D,hD⟩:=Ex W.heap.size;rw[<- hD] at k1 k2;obtain⟨S,hS⟩:=Ex (fun v W'=>PuS ⟨bn,bo,bm,bp⟩ n (L++CH k n b v) W'/\Wr (PuC.wr ⟨bn,bo,bm,bp⟩) W W'/\(∃ z,W'.heap[D]?=some (.cells #[rowJ b z 0,rowJ b z 1,rowJ b z 2,rowJ b z 3] 130 (0,0)))/\W'.heap[D+1]?=some (.cells #[.bool (useB b 0),.bool (useB b 1),.bool (useB b 2),.bool (useB b 3)] 187 (0,0)):Nat->Wd->Prop)
 have H0:Hq (S 0 w1):=Hd (by rw[hS];exact⟨by simpa [CH] using h1,Wr.of_below ga _,⟨0,k1⟩,k2⟩);have n1:=h1.n0;have gA:((b.length:Int) == (n:Int))=false:=by rw[WT];omega
 have gv:D+2=w1.heap.size:=by rw[g3,hD];simp
 have ge:∀ v W',S v W'->D+2<=W'.heap.size:=fun v W' hs=>by
  rw[hS] at hs;have:=(Vr.1 hs.2.2.2).1;omega
 have g5:Hq (∀ x v W',v<4->S x W'->W'.cell? ⟨D+1,v,none⟩=some (.bool (useB b v))):=Hd fun x v W' hv hs=>by
  rw[hS] at hs;rw[Vt _ _ v _ _ _ hs.2.2.2];rcases(show v=0\/v=1\/v=2\/v=3 by omega) with e|e|e|e<;>subst e<;>rfl
 have gr:Hq (∀ (v:Nat) W',useB b v=true->S v W'->S (v+1) W'):=Hd fun v W' hv hs=>by
  rw[hS] at hs ⊢;dsimp only at hs ⊢;rw[Iw,Vw (of_decide_eq_true hv),WU];exact hs
 have gc:Hq (∀ W',S n W'->PuR ⟨bn,bo,bm,bp⟩ n (L++ordR (k+1) n b) W (.returned (.tuple #[])) W'):=Hd fun W' hs=>by
  rw[hS] at hs;exact⟨rfl,hs.2.1,hs.1⟩
 have gt:Hq (∀ (v:Nat) W',v<n->useB b v=false->S v W'->∃ w2,w2=W'.alloc (.cells #[.bool (useB b 0),.bool (useB b 1),.bool (useB b 2),.bool (useB b 3)] 187)/\w2.cell? (Aw W'.heap.size v)=some (.bool (useB b v))/\w2.frozen? (Aw W'.heap.size v)=false/\∃ w3,w3=w2.setCell (Aw W'.heap.size v) (.bool true)/\(∃ z:Int,w3.cell? (Aw D b.length)=some (Iv z))/\w3.frozen? (Aw D b.length)=false /\
  ∃ w4,w4=w3.setCell (Aw D b.length) (Iv (v:Nat))/\w4.cell? (Av bp)=some (.func (.func 150) #[] #[Pt bn,Pt bo,Pt bm,Pt bp]) /\
  w4.heap[D]?=some (.cells #[Iv (at0 (b++[(v:Int)]) 0),Iv (at0 (b++[(v:Int)]) 1),Iv (at0 (b++[(v:Int)]) 2),Iv (at0 (b++[(v:Int)]) 3)] 130 (0,0))/\w4.heap[W'.heap.size]?=some (.cells #[.bool (useB (b++[(v:Int)]) 0),.bool (useB (b++[(v:Int)]) 1),.bool (useB (b++[(v:Int)]) 2),.bool (useB (b++[(v:Int)]) 3)] 187 (0,0)) /\
  Hq (Cl 150 #[.agg #[Iv (at0 (b++[(v:Int)]) 0),Iv (at0 (b++[(v:Int)]) 1),Iv (at0 (b++[(v:Int)]) 2),Iv (at0 (b++[(v:Int)]) 3)],Iv ((b.length:Nat)+1),.agg #[.bool (useB (b++[(v:Int)]) 0),.bool (useB (b++[(v:Int)]) 1),.bool (useB (b++[(v:Int)]) 2),.bool (useB (b++[(v:Int)]) 3)],Pt bn,Pt bo,Pt bm,Pt bp] w4 fun x w'=>x=.returned (.tuple #[])/\S (v+1) w')):=by
  intro v W' hv g0 hs;rw[hS] at hs;obtain⟨s1,s2,⟨z,s3⟩,s4⟩:=hs;have go:=(Vr.1 s3).1;have gm:=(Vr.1 s4).1;have gk:bn<D/\bo<D/\bm<D/\bp<D:=by
   obtain⟨cs,q1,_⟩:=h.o;have e1:=(Vr.1 h.n).1;have e2:=(Vr.1 q1).1;have e3:=(Vr.1 h.m).1;have e4:=Af h.p;dsimp only at e1 e2 e3 e4;omega
  obtain⟨o1,o2,o3,o4⟩:=gk;obtain⟨U,hU⟩:=Ex W'.heap.size;have gp:b.length<4:=by omega
  have g4:=Ah W' (.cells #[.bool (useB b 0),.bool (useB b 1),.bool (useB b 2),.bool (useB b 3)] 187);have q2:=Vv W' (.cells #[.bool (useB b 0),.bool (useB b 1),.bool (useB b 2),.bool (useB b 3)] 187);have d2:=(g4.block D go).trans s3;have d2':=(g4.block (D+1) gm).trans s4;have p2:=s1.below g4;refine⟨_,rfl,?_,by simp only[World.frozen?];rw[q2];simp,_,rfl,?_⟩
  . rw[Vt _ _ v _ _ _ q2];rcases(show v=0\/v=1\/v=2\/v=3 by omega) with e|e|e|e<;>subst e<;>rfl
  unfold Bw at g4
  rw[<- hU] at q2 g4 ⊢
  generalize W'.alloc (.cells #[.bool (useB b 0),.bool (useB b 1),.bool (useB b 2),.bool (useB b 3)] 187)=w2 at *
  have g2:Wr (fun k=>k=U) w2 (w2.setCell (Aw U v) (.bool true)):=(Wr.refl (fun k=>k=U) w2).setCell (p:=Aw U v) (.inl rfl) _;have q3:=A2 (k:=v) q2 (.bool true);rw[QB (by omega)] at q3
  generalize w2.setCell (Aw U v) (.bool true)=w3 at *
  have gy:=g4.size;have d3:=(g2.keep D (by omega) (by omega)).trans d2;have d3':=(g2.keep (D+1) (by omega) (by omega)).trans d2';have p3:=p2.other g2 fun k e=>by dsimp only at e ⊢;omega
  refine⟨⟨if b.length=b.length then z else at0 b b.length,?_⟩,by simp[World.frozen?,d3],_,rfl,?_⟩
  . rw[Vt _ _ b.length _ _ _ d3];unfold rowJ;rcases(show b.length=0\/b.length=1\/b.length=2\/b.length=3 by omega) with e|e|e|e<;>rw[e]<;>rfl
  have g1:Wr (fun k=>k=D) w3 (w3.setCell (Aw D b.length) (Iv (v:Nat))):=(Wr.refl (fun k=>k=D) w3).setCell (p:=Aw D b.length) (.inl rfl) _;have q4:=A2 (k:=b.length) d3 (Iv (v:Nat));rw[Q8 gp] at q4
  generalize w3.setCell (Aw D b.length) (Iv (v:Nat))=w4 at *
  have gx:=g2.size;have gw:=g1.size;have gq:=(Vr.1 q3).1;have d4:=(g1.keep U gq (by omega)).trans q3;have d4':=(g1.keep (D+1) (by omega) (by omega)).trans d3';have p4:=p3.other g1 fun k e=>by dsimp only at e ⊢;omega
  have hn:=g0;have gl:¬ (v:Int)∈b:=of_decide_eq_false g0;have g7:=Iw k n b v;rw[Vs gl] at g7;have gn:=QC k n b (v:=v+1) (d:=n-(v+1)) (by omega);rw[g7,Vx] at gn;have g6:=IH (b++[(v:Int)]) (L++CH k n b v) w4 p4 (by simp;omega) (by rw[Vx];omega);rw[VH,<- g7] at g6;refine⟨p4.p,by simpa only [Q9] using q4,d4,Hd ?_⟩;have e5:((b++[(v:Int)]).length:Int)=(b.length:Nat)+1:=by simp
  unfold rowA DD PuC.caps at g6;rw[e5] at g6;refine Calls.mono g6 ?_;rintro x w' ⟨h5,h6,h7⟩;refine⟨h5,?_⟩;rw[hS];have hw:Wr (PuC.wr ⟨bn,bo,bm,bp⟩) W w':=by
   have a1:Wr (PuC.wr ⟨bn,bo,bm,bp⟩) W w2:=s2.trans (Wr.of_below (show Below W'.heap.size W' w2 from hU ▸ g4) (PuC.wr ⟨bn,bo,bm,bp⟩)) (fun _ _ e=>e) (fun _ _ e=>e);have a2:=a1.trans g2 (N:=PuC.wr ⟨bn,bo,bm,bp⟩) (fun _ _ e=>e) (fun k hk e=>by have:=s2.size;omega);have a3:=a2.trans g1 (N:=PuC.wr ⟨bn,bo,bm,bp⟩) (fun _ _ e=>e) (fun k hk e=>by omega);exact a3.trans h6 (fun _ _ e=>e) (fun _ _ e=>e)
  have k1:¬ PuC.wr ⟨bn,bo,bm,bp⟩ D:=fun e=>by rcases e with e|e<;>dsimp only at e<;>omega
  have k2:¬ PuC.wr ⟨bn,bo,bm,bp⟩ (D+1):=fun e=>by rcases e with e|e<;>dsimp only at e<;>omega
  exact⟨h7,hw,⟨_,(h6.keep D (by omega) k1).trans q4⟩,(h6.keep (D+1) (by omega) k2).trans d4'⟩
 have gu:=Hd Lh;have HW1:=Hd g3.symm;have HSZ:=Hd ge;unfold PuC.caps rowA DD
 show Calls _ _ #[_,_,_,_,_,_,_] _ _
 obtain⟨P,hP⟩:=Ex (PuR ⟨bn,bo,bm,bp⟩ n (L++ordR (k+1) n b) W:Ending->Wd->Prop);rw[<- hP] at gc ⊢;clear g3 ga k1 k2 hP IH h h1 hS hl ge
 go_enter func150,ntmps150
 go_upto_region 1 with fail;rw[<- hD,HW1.o];clear hD HW1;go_wp2_with fail
 go_loopw [10,11,21] (fun _ _ s21 wr=>∃ v:Nat,v<=n/\s21=Iv (v:Nat)/\Hq (S v wr)) (fun _ _ s21 _=>n-(intOf s21).toNat)
 case atStart=>exact⟨0,VC _,rfl,H0⟩
 case round =>
  obtain⟨v,hv,rfl,HS⟩:=hrel
  by_cases g9:v<n
  ·have gB:(v:Int)<(n:Int):=by omega
   have gz:(v:Int)<4:=by omega
   have g8:=g5.o v v wr (by omega) HS.o;have l0:=g5.o v 0 wr (by omega) HS.o;have l1:=g5.o v 1 wr (by omega) HS.o;have l2:=g5.o v 2 wr (by omega) HS.o;have l3:=g5.o v 3 wr (by omega) HS.o;cases g0:useB b v with
   | true =>
     rw[g0] at g8;have HN:=Hd (gr.o v wr g0 HS.o);clear HS g0 l0 l1 l2 l3;go_wp2_with fail;go_roundw
     case rel=>exact⟨v+1,g9,by go_num,HN⟩
     case measure=>simp[intOf];omega
   | false =>
     rw[g0] at g8;obtain⟨w2,gd,u2,f2,w3,g2,⟨z,u3⟩,f3,w4,g1,u4,gg,gf,HC⟩:=gt.o v wr g9 g0 HS.o;have gj:=Hd gd.symm;have gi:=Hd g2.symm;have gh:=Hd g1.symm;clear HS gd g2 g1;go_upto_region 7 with fail;go_upto_region 9 with fail;rw[gj.o];go_upto_region 10 with fail;rw[gi.o];go_upto_region 11 with fail;rw[gh.o];obtain⟨r0,r1,r2,r3,-⟩:=cells4 gg;obtain⟨s0,s1,s2,s3,-⟩:=cells4 gf;clear gj gi gh u2 u3 f2 f3 l0 l1 l2 l3 g8 gg gf g0;have eg:=gu.o;go_wp2_with fail;refine HC.o.mono ?_;rintro x w5 ⟨rfl,h5⟩;have HN:=Hd h5;clear h5 HC u4 r0 r1 r2 r3 s0 s1 s2 s3 eg;go_wp2_with fail;go_roundw
     case rel=>exact⟨v+1,g9,by go_num,HN⟩
     case measure=>simp[intOf];omega
  ·obtain rfl:v=n:=by omega
   have HF:=Hd (gc.o _ HS.o);clear HS;go_wp2_with fail;refine VR (WC rfl _ _ _) rfl ?_;exact HF.o
theorem Li (hn4:n<=4):∀ (k:Nat) (b:List Int) (L:List (List Int)) (W:Wd),PuS c n L W->b.length+k=n->L.length+(ordR k n b).length<=24->Cl 150 (#[rowA b,Iv (b.length:Nat),DD b]++c.caps) W (PuR c n (L++ordR k n b) W)
 | 0,b,L,W,h,hb,hl=>Q7 h (by simp[ordR] at hl;omega) (by omega) hn4
 | k+1,b,L,W,h,hb,hl=>QD h hb hn4 hl fun b L W h1 h2 h3=>Li hn4 k b L W h1 h2 h3
end
def tabC (L:List (List Int)):Array Value:=((List.range 96).map fun i=>Value.int .i64 (rowV L i)).toArray
theorem CI (L:List (List Int)):(tabC L).size=96:=by simp[tabC]
theorem FN (L:List (List Int))(h:i<96):(tabC L)[i]?=some (Iv (rowV L i)):=by simp[tabC,h]
theorem QE {L:List (List Int)}(h1:cs.size=96)(h2:∀ i,i<96->cs[i]?=some (Iv (rowV L i))):cs=tabC L:=by
 apply Array.ext_getElem?;intro i
 by_cases h:i<96
 . rw[h2 i h,FN L h]
 . rw[X2 (by omega),X2 (by rw[CI];omega)]
theorem ord24 (h:n<=4):(ordR n n []).length<=24:=by
 rcases(show n=0\/n=1\/n=2\/n=3\/n=4 by omega) with e|e|e|e|e<;>subst e<;>decide +kernel
theorem QG (w:Wd)(g:Nat)(t ty:TypeId)(cur cs:Array Value)(hg:w.heap[g]?=some (.cells cur t (0,0)))(hz:cs.size=cur.size)(h1:∀ v∈cs,v.oneCell'=true)(hi:(P.info? ty).map (fun i=>i.size)=some cs.size) :
 (Instr.storeAt ty (Pt g) (.agg cs)).run P w=.ok () (w.setRow g cs):=by
 have g0:=run_storeCells_from (P:=P) g t cs.toList 0 cur w hg (by simpa using hz) (fun v hv=>h1 v (by simpa using hv));have e:(cur.toList.take 0++cs.toList).toArray=cs:=by simp
 rw[e] at g0;cases hq:P.info? ty with
 | none=>simp[hq] at hi
 | some i =>
   have hs:cs.size=i.size:=by simp[hq] at hi;omega
   simp only[Instr.storeAt,Instr.sureAddr,WB,XQ,VZ];simp[storeVar,sizeOf,typeInfo,hq,Value.cells,hs,g0]
theorem QH {o:Oper}{s:Operand}(ho:o.op=.load t s)(hr:(Instr.loadAt t (a.eval s)).run P w=.ok v w):(execOp a.eval o).run P w=.ok (.value v) w:=by
 unfold execOp;simp[ho,hr]
theorem QI (hn4:n<=4)(w:Wd):Cl 98 #[Iv n] w (Bl (.tuple #[.agg (tabC (ordR n n [])),Iv ((ordR n n []).length:Nat)]) w):=by
 have gB:∀ (fn:Fn) (first cap:Array Value) (w:Wd),(Instr.makeFunc fn first cap).run prog w=.ok (.func fn first cap) w:=fun _ _ _ _=>rfl
 obtain⟨D,hD⟩:=Ex w.heap.size;have hz:Tryz.zeroCells131=tabC []:=by kernel_rfl
 obtain⟨a1,gc⟩:∃ a,a=w.alloc (.cells #[Iv (n:Nat)] 3):=⟨_,rfl⟩;obtain⟨a2,ga⟩:∃ a,a=a1.alloc (.cells (tabC []) 131):=⟨_,rfl⟩;obtain⟨a3,g9⟩:∃ a,a=a2.alloc (.cells (tabC []) 131):=⟨_,rfl⟩;obtain⟨a4,g8⟩:∃ a,a=a3.alloc (.cells #[Iv 0] 3):=⟨_,rfl⟩;obtain⟨a5,g7⟩:∃ a,a=a4.alloc (.cells #[Value.nilFunc] 186):=⟨_,rfl⟩;have s1:a1.heap.size=D+1:=by rw[gc,hD];simp
 have s2:a2.heap.size=D+2:=by rw[ga,VK,s1]
 have s3:a3.heap.size=D+3:=by rw[g9,VK,s2]
 have s4:a4.heap.size=D+4:=by rw[g8,VK,s3]
 have s5:a5.heap.size=D+5:=by rw[g7,VK,s4]
 have b1:Bw w a1:=by rw[gc];exact Ah _ _
 have b2:Bw a1 a2:=by rw[ga];exact Ah _ _
 have b3:Bw a2 a3:=by rw[g9];exact Ah _ _
 have b4:Bw a3 a4:=by rw[g8];exact Ah _ _
 have b5:Bw a4 a5:=by rw[g7];exact Ah _ _
 have h1:a1.heap[D]?=some (.cells #[Iv (n:Nat)] 3 (0,0)):=by rw[gc,hD];exact Vv _ _
 have h2:a2.heap[D+1]?=some (.cells (tabC []) 131 (0,0)):=by rw[ga,<- s1];exact Vv _ _
 have h3:a3.heap[D+2]?=some (.cells (tabC []) 131 (0,0)):=by rw[g9,<- s2];exact Vv _ _
 have h4:a4.heap[D+3]?=some (.cells #[Iv 0] 3 (0,0)):=by rw[g8,<- s3];exact Vv _ _
 have h5:a5.heap[D+4]?=some (.cells #[Value.nilFunc] 186 (0,0)):=by rw[g7,<- s4];exact Vv _ _
 have g1:=(b5.block D (by omega)).trans ((b4.block D (by omega)).trans ((b3.block D (by omega)).trans ((b2.block D (by omega)).trans h1)));have g2:=(b5.block (D+1) (by omega)).trans ((b4.block (D+1) (by omega)).trans ((b3.block (D+1) (by omega)).trans h2));have g3:=(b5.block (D+2) (by omega)).trans ((b4.block (D+2) (by omega)).trans h3);have g4:=(b5.block (D+3) (by omega)).trans h4;obtain⟨c,hc⟩:=Ex (⟨D,D+2,D+3,D+4⟩:PuC);obtain⟨fv,ge⟩:∃ v,v=Value.func (.func 150) #[] c.caps:=⟨_,rfl⟩;obtain⟨a6,gg⟩:∃ a,a=a5.setCell (Av (D+4)) fv:=⟨_,rfl⟩;have g0:Wr (fun k=>k=D+4) a5 a6:=by rw[gg];exact(Wr.refl (fun k=>k=D+4) a5).setCell (p:=(Av (D+4))) (.inl rfl) _
 have h6:a6.heap[D+4]?=some (.cells #[fv] 186 (0,0)):=by rw[gg];exact A2 h5 _
 have k1:=(g0.keep D (by omega) (by omega)).trans g1;have k2:=(g0.keep (D+1) (by omega) (by omega)).trans g2;have k3:=(g0.keep (D+2) (by omega) (by omega)).trans g3;have k4:=(g0.keep (D+3) (by omega) (by omega)).trans g4;have hp:PuS c n [] a6:=by
  subst hc;exact⟨k1,⟨_,k3,CI _,fun i hi=>FN _ hi⟩,k4,by rw[Vt _ _ 0 _ _ _ h6,ge];rfl,by dsimp only;omega⟩
 have gh:Bw w a6:=by
  have:=b1.trans (b2.mono b1.size);have:=this.trans (b3.mono this.size);have:=this.trans (b4.mono this.size);have:=this.trans (b5.mono this.size);exact this.trans (g0.below (fun k hk=>by omega) (by omega))
 have g6:(store (Av (D+4)) fv).run prog a5=.ok () a6:=by
  rw[gg];exact Cn (u:=Value.nilFunc) (by rw[Vt _ _ 0 _ _ _ h5];rfl) (by simp[World.frozen?,h5]) (by rw[ge];rfl)
 have HC:=Hd (Li hn4 n [] [] a6 hp (by simp) (by have:=ord24 hn4;simpa using this));have p4:a6.cell? (Av (D+4))=some fv:=by rw[Vt _ _ 0 _ _ _ h6];rfl
 obtain⟨L,hL⟩:=Ex (ordR n n []);rw[Ws,<- hL] at HC;rw[<- hL];have gd:Hq (∀ w7,PuR c n L a6 (.returned (.tuple #[])) w7->w7.heap[D+2]?=some (.cells (tabC L) 131 (0,0))/\w7.heap[D+3]?=some (.cells #[Iv (L.length:Nat)] 3 (0,0))/\w7.heap[D+1]?=some (.cells (tabC []) 131 (0,0))/\Bw w w7):=Hd fun w7 ⟨_,q1,q2⟩=>by
  obtain⟨cs,q3,q4,q5⟩:=q2.o;rw[QE q4 q5] at q3;have q6:=q2.m;have q7:¬ c.wr (D+1):=by
   rw[hc];rintro(e|e)<;>dsimp only at e<;>omega
  rw[hc] at q3 q6;have hz:=g0.size;refine⟨q3,q6,(q1.keep (D+1) (by omega) q7).trans k2,gh.trans (q1.below (fun k hk=>?_) gh.size)⟩;rw[hc] at hk;rcases hk with e|e<;>dsimp only at e<;>omega
 have gi:=Hd g6;have gy:=Hd Lh;have gr:=Hd g7.symm;have gt:=Hd g8.symm;have gu:=Hd g9.symm;have gv:=Hd ga.symm;have gw:=Hd gc.symm;have gC:=Hd s4;have n0:a5.cell? (Av D)=some (Iv (n:Nat)):=by rw[Vt _ _ 0 _ _ _ g1];rfl
 have gx:a1.heap.size=D+1:=s1;have gf:fv=.func (.func 150) #[] #[Pt D,Pt (D+2),Pt (D+3),Pt (D+4)]:=by rw[ge,hc];rfl
 have gk:Hq (Cl 150 #[.agg #[Iv 0,Iv 0,Iv 0,Iv 0],Iv 0,.agg #[.bool false,.bool false,.bool false,.bool false],Pt D,Pt (D+2),Pt (D+3),Pt (D+4)] a6 (PuR c n L a6)):=Hd (by have:=HC.o;rw[hc] at this ⊢;exact this);rw[gf] at g6 p4;have go:=Hd p4;have gi:=Hd g6;obtain⟨Q,hQ⟩:=Ex (PuR c n L a6);rw[<- hQ] at gk gd;have HQ:Hq (∀ x w',Q x w'->x=.returned (.tuple #[])):=Hd fun x w' h=>by rw[hQ] at h;exact h.1
 clear h1 h2 h3 h4 h5 g1 g2 g3 g4 k1 k2 k3 k4 h6 g0 b1 b2 b3 b4 b5 hp gh ge hL gx hc gf HC p4 gc ga g9 g8 g7 gg s1 s2 s3 s4 s5 hQ
 go_enter func98,ntmps98
 go_upto_region 4 with fail;rw[gw.o,gv.o,gu.o,gt.o,gr.o,<- hD,show D+1+1+1+1=D+4 from rfl,show D+1+1+1=D+3 from rfl,show D+1+1=D+2 from rfl];have gq:=Hd hD;clear gw gv gu gt gr hz n0 hD;go_upto_region 5 with fail;have p4:=go.o;have eg:=gy.o;clear g6 go gi;go_wp2_with fail;refine gk.o.mono ?_;rintro x w7 hq;obtain rfl:=HQ.o x w7 hq;obtain⟨q1,q2,q3,q4⟩:=gd.o w7 hq;have gA:=Hd q4;have gm:∀ W:Wd,W.heap[D+2]?=some (.cells (tabC L) 131 (0,0))->(Instr.loadAt 131 (Pt (D+2))).run prog W=.ok (.agg (tabC L)) W:=fun W hy=>by
  simp only[Instr.loadAt,Instr.sureAddr,WB,XQ,Result.andThen];exact run_loadVar_row _ _ _ _ (tabC L) (0,0) _ hy underlying131 rfl (by rw[CI];kernel_rfl)
 have gl:(Instr.storeAt 131 (Pt (D+1)) (.agg (tabC L))).run prog w7.drew=.ok () (w7.drew.setRow (D+1) (tabC L)):=QG w7.drew (D+1) _ _ (tabC []) (tabC L) q3 (by rw[CI,CI]) (fun v hv=>by
  simp only[tabC,List.mem_toArray,VD] at hv;obtain⟨k,_,rfl⟩:=hv;rfl) (by rw[CI];kernel_rfl)
 obtain⟨w8,g5⟩:=Ex (w7.drew.setRow (D+1) (tabC L));have g1:w8.heap[D+1]?=some (.cells (tabC L) 131 (0,0)):=by rw[g5];exact setRow_heap w7.drew (D+1) (tabC []) _ _ _ q3
 have g2:w8.heap[D+2]?=some (.cells (tabC L) 131 (0,0)):=by rw[g5,setRow_other _ _ _ _ (by omega)];exact q1
 have g3:w8.heap[D+3]?=some (.cells #[Iv (L.length:Nat)] 3 (0,0)):=by rw[g5,setRow_other _ _ _ _ (by omega)];exact q2
 have gn:Bw w w8:=by
  rw[g5];exact gA.o.trans ⟨rfl,rfl,rfl,by simp[World.setRow],fun k hk=>by rw[setRow_other _ _ _ _ (by have:=gq.o;omega)];rfl⟩
 have gz:=Hd gn;have gj:=Hd gl;have gp:=Hd gm;rw[<- g5] at gj;clear hq gd HQ gk p4 eg q4 q3 gl gm g5 gn gq;go_upto_region 6 with fail;refine FL [0,1,2,3] (fun W=>W.heap[D+2]?=some (.cells (tabC L) 131 (0,0))/\W.heap[D+3]?=some (.cells #[Iv (L.length:Nat)] 3 (0,0))) (fun _ _=>False) (fun _ _ _ _ h=>h.elim) (by kernel_rfl) ⟨q1,q2⟩ ?_;refine Ed rfl rfl (by kernel_rfl) ⟨.agg (tabC L),fun W hW=>QH rfl (gp.o W hW.1),?_⟩;simp only[Ab];refine Ed rfl rfl (by kernel_rfl) ?_;refine⟨Iv (L.length:Nat),fun W hW=>?_,?_⟩
 . have:=Vt W _ 0 _ _ _ hW.2;go_simp
 simp only[Ab];refine Lg (w':=w8) rfl (by kernel_rfl) rfl rfl (by go_simp<;>exact gj.o) ⟨g2,g3⟩ ?_;simp only[Ab];refine Ed rfl rfl (by kernel_rfl) ⟨Iv (L.length:Nat),fun W hW=>by go_simp,?_⟩;simp only[Ab];refine FM (by kernel_rfl) ?_;clear g2 g3 q1 q2 gj gp;go_wp2_with fail;refine VR (v:=.tuple #[.agg (tabC L),Iv (L.length:Nat)]) ((results_cell_tmp rfl _ _ _).trans ?_) rfl ⟨rfl,gz.o⟩
 show ((asAddr (Pt (D+1))).run prog w8).andThen (fun a w₁=>((loadVar 131 a).run prog w₁).andThen fun v w₂=>.ok (Value.tuple #[v,Iv (L.length:Nat)]) w₂)=_
 have hl:=run_loadVar_row (P:=prog) w8 (D+1) _ 131 (tabC L) (0,0) _ g1 underlying131 rfl (by rw[CI];kernel_rfl)
 show ((loadVar 131 (Av (D+1))).run prog w8).andThen _=_
 rw[hl];rfl
end Go.Proofs.YtkidaindpahefaaGreat

namespace Go.Proofs
open Go.Proofs.Tryz
open Go.Shelf
end Go.Proofs

namespace Go.Proofs.YtkidaindpahefaaGreat
open Go.Proofs.Tryz
open Go.RowKit Go.Shelf
variable {P:Program}{Q:Exit->Act->Wd->Prop}{W0 w w1:Wd}{a:Act}{clock gf mb n:Nat}{oG:Own}{seen:Array Nat}{v:Value}
section
variable {F:Fence}{α:Type}
def Lj (F:Fence)(n d:Nat)(P:Program)(g:Nat)(lb:Array Value)(encs:α->Array Value)(n₀:Nat)(Bx:Nat->Prop)(Good:List α->Prop)(w:Wd):Prop :=
 ∀ (l:Nat) (J:List α->(Nat->Prop)->Wd->Prop) (M:Nat->Prop) (W:Wd),Fo n₀ J->Minds n₀ J->Wr (fun k=>n₀<=k/\¬ Bx k) w W->(∀ k,Bx k->¬ M k) ->
  (∀ pre x M W1,J pre M W1->(∃ suf,Good (pre++x::suf))->YieldAt F (n-1-d) P l (encs x) W1 fun e W' =>
   e=.returned (.bool true)/\∃ M',J (pre++[x]) M' W'/\Wr M W1 W'/\∀ k,M' k->M k\/W1.heap.size<=k) ->
  J [] M W ->
  CallsIn F n P g (#[.func (.yield l) #[] #[]]++lb) W fun e W'=>(∃ v,e=.returned v)/\∃ xs M',Good xs/\J xs M' W'/\Wr (fun k=>n₀<=k) W W'/\∀ k,M' k->M k\/W.heap.size<=k
theorem QJ {g:Operand}{ps:Array Tmp}{assign body:Code}(hro:F.round=none)(h1:1<=n){lb:Array Value}(hg:a.eval g=.func (.func gf) #[] lb)
 (hFg:F.fn gf) (eg:∀ args w,(callFunc gf args).run P w=.ok (.enter gf args) w) {encs:α->Array Value} {n₀:Nat} {Bx:Nat->Prop} {Good:List α->Prop} {d:Nat} (hseq:Lj F (n-1) d P gf lb encs n₀ Bx Good w) (hn0:n₀<=w.heap.size)
 (hBx:∀ k,Bx k->k<w.heap.size) (hps:∀ x,(encs x).size=ps.size) (I:List α->(Nat->Prop)->Wd->Prop) (hOw:Fo n₀ I) (hMi:Minds n₀ I) (M0:Nat->Prop) (hM0:∀ k,Bx k->¬ M0 k) (h0:I [] M0 w)
 (Ax:α->Act->Wd->Wd->Prop) (hAx:∀ x a' W W1 W2 l,l<W.heap.size->Ax x a' W W1->Wr (· = l) W1 W2->Ax x a' W W2)
 (hassign:∀ (l:Nat) (pre:List α) (x:α) (M:Nat->Prop) (W:Wd) (K:Act->Wd->Prop),I pre M W->(∀ a' W',Wr (fun _=>False) W W'->Ax x a' W W'->K a' W') ->
  assign.wpIn (F.inRound l) (n-1-1-d) P (Exit.then K (fun _ _ _=>False)) { tmps:=(ps.zip (encs x)).foldl (fun t (p,v)=>t.setIfInBounds p v) a.tmps,defers:=[] } W)
 (hbody:∀ (l:Nat) (pre:List α) (x:α) (a':Act) (M:Nat->Prop) (W0 W:Wd),I pre M W->Ax x a' W0 W->W0.heap.size<=W.heap.size->w.heap.size<=W0.heap.size->(∃ suf,Good (pre++x::suf))->body.wpIn (F.inRound l) (n-1-1-d) P
  (fun e _ W'=>match e with|.normal=>∃ M',I (pre++[x]) M' W'/\Wr (fun k=>M k\/W0.heap.size<=k) W W'/\(∀ k,M' k->M k\/W0.heap.size<=k)|_=>False) a' W)
 (hdone:∀ (xs:List α) (D:Nat) (M:Nat->Prop) (W:Wd),Good xs->w.heap.size<=D->¬ M D->I xs M W->(∀ k,M k->M0 k\/w.heap.size<=k)->Wr (fun k=>n₀<=k) w W->W.heap[D]?=some (.deferred (some []))->Q .normal { a with defers:={ target:=.collected D,args:=#[] }::a.defers } W) :
 (Code.rangeFunc g ps assign body).wpIn F n P Q a w:=by
 refine wpIn_rangeFunc ?_;intro fn go;rw[hro]
 let rec0:LoopState->Loop:=fun st=>{ state:=st,pending:=none,fn,tmps:=a.tmps,params:=ps,assign,body,defers:=w.heap.size }
 obtain⟨W1,g1⟩:=Ex ((w.alloc (.deferred (some []))).alloc (.loop (rec0 .ready)));have gu:W1.heap[w.heap.size+1]?=some (.loop (rec0 .ready)):=by
  rw[g1];have:=World.alloc_heap_new (w.alloc (.deferred (some []))) (.loop (rec0 .ready))
  rwa [VK] at this
 have gw:W1.heap[w.heap.size]?=some (.deferred (some [])):=by
  rw[g1];exact(W9 _ _ _ (by simp)).trans (World.alloc_heap_new w _)
 have g5:∀ N:Nat->Prop,Wr N w W1:=fun N=>by rw[g1];exact((Wr.refl N w).alloc _).alloc _
 have g2:=hOw [] M0 w h0;have gv:I [] M0 W1:=hMi _ _ _ _ h0 (g5 _)
 refine⟨w.heap.size+1,[{ target:=.collected w.heap.size,args:=#[] }],W1,{ target:=.fn (.func gf) lb,args:=#[.func (.yield (w.heap.size+1)) #[] #[]] },W1,gf,
  #[.func (.yield (w.heap.size+1)) #[] #[]]++lb,W1,?_,?_,?_,?_,fun _=>h1,?_⟩
 . rw[g1];exact run_enterLoop_outer _ _ _ _ _
 . simp only[resolve,hg];simp[go_sem]
 . intro f' gd;simp[Target.leads] at gd;subst gd;exact hFg
 . simp[invoke,go_sem,eg]
 refine(hseq (w.heap.size+1)
  (fun pre N W=>∃ M,I pre M W/\(∀ k,N k↔(M k\/k=w.heap.size+1\/k=w.heap.size))/\¬ M (w.heap.size+1)/\¬ M w.heap.size/\(∀ k,M k->M0 k\/w.heap.size<=k) /\
   W.heap[w.heap.size+1]?=some (.loop (rec0 .ready))/\W.heap[w.heap.size]?=some (.deferred (some [])))
  (fun k=>M0 k\/k=w.heap.size+1\/k=w.heap.size) W1 ?_ ?_ (g5 _) ?_ ?_ ?_).mono ?_
 ·rintro pre N W ⟨M,hi,hN,_,_,_,hl,hd⟩ k hk;rcases(hN k).1 hk with hk|hk|hk
  . exact hOw _ _ _ hi k hk
  . subst hk;exact⟨by omega,(Vr.1 hl).1⟩
  . subst hk;exact⟨hn0,(Vr.1 hd).1⟩
 ·rintro pre N W W' ⟨M,hi,hN,h2,h3,h4,hl,hd⟩ hw;refine⟨M,hMi _ _ _ _ hi ?_,hN,h2,h3,h4,?_,?_⟩
  . exact⟨hw.os,hw.tape,hw.output,hw.size,fun k hk hn=>hw.keep k hk (fun⟨a,b⟩=>hn ⟨a,fun e=>b ((hN k).2 (.inl e))⟩)⟩
  . exact(hw.keep _ (Vr.1 hl).1 (fun⟨_,b⟩=>b ((hN _).2 (.inr (.inl rfl))))).trans hl
  . exact(hw.keep _ (Vr.1 hd).1 (fun⟨_,b⟩=>b ((hN _).2 (.inr (.inr rfl))))).trans hd
 ·intro k hk hm;have:=hBx k hk;rcases hm with hm|hm|hm
  . exact hM0 k hk hm
  . omega
  . omega
 ·rintro pre x N W ⟨M,hi,hN,h2,h3,h4,hl,hd⟩ ge;have ga:w.heap.size+1<W.heap.size:=(Vr.1 hl).1;have hy:=run_yield (P:=P) (args:=encs x) hl (hps x);refine⟨fn,_,assign,body,hy,roundIn_of_wpIn go (hassign _ pre x M W _ hi ?_)⟩;intro a' Wa g0 gt;have gk:=(g0.keep _ ga (fun h=>h)).trans hl;have gq:=(g0.keep _ (by omega) (fun h=>h)).trans hd;have g6:w.heap.size+1<Wa.heap.size:=by have:=g0.size;omega
  refine⟨_,run_beginRound gk rfl,?_⟩;have gm:I pre M Wa:=hMi _ _ _ _ hi (g0.mono (fun _ h=>h.elim));have g8:Wr (· = w.heap.size+1) Wa (Wa.putObj (w.heap.size+1) (.loop { rec0 .ready with state:=.busy })):=(Wr.refl (· = w.heap.size+1) Wa).putObj (l:=w.heap.size+1) (.inl rfl) _;have gl:I pre M (Wa.putObj (w.heap.size+1) (.loop { rec0 .ready with state:=.busy })):=hMi _ _ _ _ gm (g8.mono (fun k e=>by have e':k=w.heap.size+1:=e;subst e';exact⟨by omega,h2⟩));have gj:(Wa.putObj (w.heap.size+1) (.loop { rec0 .ready with state:=.busy })).heap[w.heap.size+1]?=some (.loop { rec0 .ready with state:=.busy }):=Yf g6;have gp:(Wa.putObj (w.heap.size+1) (.loop { rec0 .ready with state:=.busy })).heap[w.heap.size]?=some (.deferred (some [])):=(WA (by omega)).trans gq;refine wpIn_mono (hbody _ pre x a' M W _ gl (hAx _ _ _ _ _ _ ga gt g8) (by simp;exact g0.size) (by omega) ge) ?_;intro e a3 W3 hp;cases e with
  | normal =>
    obtain⟨M',gn,g4,g3⟩:=hp;have gc:=(g4.keep _ (by simp;exact g6) (fun e=>by rcases e with e|e;exact h2 e;omega)).trans gj;have gr:=(g4.keep _ (by simp;omega) (fun e=>by rcases e with e|e;exact h3 e;omega)).trans gp;have gg:=(Vr.1 gc).1;have g9:¬ M' (w.heap.size+1):=fun e=>by rcases g3 _ e with h|h;exact h2 h;omega
    have gi:¬ M' w.heap.size:=fun e=>by rcases g3 _ e with h|h;exact h3 h;omega
    refine⟨_,_,run_endRound (P:=P) none gc,rfl,fun k=>M' k\/k=w.heap.size+1\/k=w.heap.size,⟨M',?_,fun k=>Iff.rfl,g9,gi,?_,Yf gg,(WA (by omega)).trans gr⟩,?_,?_⟩
    . exact hMi _ _ _ _ gn ((Wr.refl _ _).putObj (.inl ⟨by omega,g9⟩) _)
    ·intro k hk;rcases g3 k hk with h|h
     . exact h4 k h
     . right;omega
    ·refine((((g0.mono (N:=N) (fun _ h=>h.elim)).putObj (l:=w.heap.size+1) (.inl ((hN _).2 (.inr (.inl rfl)))) _).trans (N:=N) g4 (fun k _ h=>h) (fun k hk h=>?_)).putObj (l:=w.heap.size+1) (.inl ((hN _).2 (.inr (.inl rfl)))) _);rcases h with h|h
     . exact(hN k).2 (.inl h)
     . omega
    ·rintro k (hk|hk)
     ·rcases g3 k hk with h|h
      . exact .inl ((hN k).2 (.inl h))
      . exact .inr h
     . exact .inl ((hN k).2 (.inr hk))
  | ret=>exact hp.elim
  | exit id=>exact hp.elim
  | goto t=>exact hp.elim
  | panic ch=>exact hp.elim
  | outgrown=>exact hp.elim
 . exact⟨M0,gv,fun k=>Iff.rfl,fun e=>by have:=(g2 _ e).2;omega,fun e=>by have:=(g2 _ e).2;omega,fun k h=>.inl h,gu,gw⟩
 ·rintro e W2 ⟨⟨v,rfl⟩,xs,N,g7,⟨M,hi,hN,h2,h3,h4,hl,hd⟩,gh,_⟩;refine⟨none,_,run_endLoop (P:=P) hl (by simp[rec0]),hdone xs _ M _ g7 (Vu _) h3 ?_ h4 ?_ ((WA (by omega)).trans hd)⟩
  . exact hMi _ _ _ _ hi ((Wr.refl _ _).putObj (.inl ⟨by omega,h2⟩) _)
  . exact((g5 (fun k=>n₀<=k)).trans gh (fun _ _ h=>h) (fun _ _ h=>h)).putObj (.inl (by omega)) _
end
open Go.ChangeMaps (setBlock)
def AR (q:Nat×Nat):List Value:=[Iv q.1,Iv q.2]
abbrev Xv:=@List.pairwise_map
theorem Lk {α β:Type}{f:α->β}{l:List α}(h:(l.map f).Nodup):l.Nodup:=(Xv.1 h).imp fun hne e=>hne (Wo f e)
def Ix:Value->Nat
 | .int _ n=>n.toNat
 | _=>0
def unE:Value->Nat×Nat
 | .agg cs=>(Ix (cs.getD 0 undef),Ix (cs.getD 1 undef))
 | _=>(0,0)
theorem QK (q:Nat×Nat):unE (encE q)=q:=by simp[unE,encE,Ix]
structure C9 (es:Array MapEntry)(clock:Nat)(seen:Array Nat)(ks:List (Nat×Nat))(sl:List MapEntry):Prop where
 sub:∀ e∈sl,e∈es.toList
 born:sl.map (·.born)=seen.toList
 nodup:(sl.map (·.born)).Nodup
 keys:sl.map (·.key)=ks.map encE
theorem C9.start (es:Array MapEntry)(clock:Nat):C9 es clock #[] [] []:=⟨fun _ h=>(by cases h),rfl,List.nodup_nil,rfl⟩
theorem C9.next {es:Array MapEntry}{ks:List (Nat×Nat)}{sl:List MapEntry}(h:C9 es clock seen ks sl){e:MapEntry}(he:e∈(leftOf es seen).toList){q:Nat×Nat}(hq:e.key=encE q):C9 es clock (seen.push e.born) (ks++[q]) (sl++[e]):=by
 obtain⟨h1,h2⟩:=mem_left he;refine⟨fun x hx=>?_,by simp[h.born],?_,by simp[h.keys,hq]⟩
 ·rcases VF.1 hx with hx|hx
  . exact h.sub x hx
  . simp at hx;subst hx;exact h1
 ·rw[VU,Wh];refine⟨h.nodup,by simp,fun a ha b hb=>?_⟩;simp at hb;subst hb;rintro rfl;rw[h.born] at ha;have:seen.contains e.born=true:=by simpa using ha
  rw[this] at h2;cases h2
theorem C9.all {es:Array MapEntry}{ks:List (Nat×Nat)}{sl:List MapEntry}(h:C9 es clock seen ks sl)(hn:(es.toList.map (·.born)).Nodup)(h0:(leftOf es seen).size=0):sl.Perm es.toList:=by
 have g0:=all_seen es seen h0;refine(List.perm_ext_iff_of_nodup (Lk h.nodup) (Lk hn)).2 fun e=>⟨h.sub e,fun he=>?_⟩
 have h1:=g0 e he;have h2:e.born∈sl.map (·.born):=by rw[h.born];simpa using h1
 obtain⟨x,hx,e1⟩:=VD.1 h2;have:x=e:=born_inj hn (h.sub x hx) he e1;rw[<- this];exact hx
abbrev Xa:=@List.map_map
theorem C9.keysOf {w:Wd}{b:Nat}{l:List ((Nat×Nat)×Value)}{es:Array MapEntry}{ks:List (Nat×Nat)}{sl:List MapEntry}(h:C9 es clock seen ks sl)(hn:(es.toList.map (·.born)).Nodup)(h0:(leftOf es seen).size=0)
 (hl:es.toList.map (fun e=>(e.key,e.val))=l.map (fun p=>(encE p.1,p.2))):ks.Perm (l.map Prod.fst):=by
 have h1:(ks.map encE).Perm ((l.map Prod.fst).map encE):=by
  rw[<- h.keys];have h2:=(h.all hn h0).map (fun e:MapEntry=>e.key);refine h2.trans ?_;have h3:=Wo (List.map Prod.fst) hl;simp only[Xa] at h3;have e1:(es.toList.map fun e:MapEntry=>e.key)=(l.map Prod.fst).map encE:=by
   rw[Xa];exact h3
  rw[e1]
 have h2:=h1.map unE;simpa [Xa,Function.comp_def,QK] using h2
theorem QL:(prog.info? 280).map (fun i=>(i.zero,i.size,i.bytes))=some (some (.agg #[Iv 0,Iv 0]),2,16):=by kernel_rfl
structure KeyS (W0:Wd)(mb r clock:Nat)(es:Array MapEntry)(seen:Array Nat)(ks:List (Nat×Nat))(sl:List MapEntry)(v:Value)(oG:Own)(wr:Wd):Prop where
 low:Bw W0 wr
 it:wr.heap[r]?=some (.mapIter (some mb) clock seen clock)
 came:C9 es clock seen ks sl
 row:RowR oG wr .slots 280 2 v ks.length (ks.flatMap AR)
 lt:Ac oG wr
 ge:∀ k q,oG k=some q->q=.slots/\W0.heap.size<=k
 no:oG r=none
 cnt:ks.length+(leftOf es seen).size<=es.size
theorem KeyS.next {W0:Wd}{mb r clock:Nat}{es:Array MapEntry}{seen:Array Nat}{ks:List (Nat×Nat)}{sl:List MapEntry}{v v':Value}{oG o1:Own}{wr w1 w2 w3 w4:Wd}(h:KeyS W0 mb r clock es seen ks sl v oG wr)(hr0:W0.heap.size<=r){e:MapEntry}(he:e∈(leftOf es seen).toList){q:Nat×Nat}(hq:e.key=encE q)
 (hw1:w1=wr\/w1=wr.drew) (hw2:w2=setBlock w1 r (.mapIter (some mb) clock (seen.push e.born) clock)) (hb3:Bw w2 w3)
 (hr:RowR o1 w4 .slots 280 2 v' (ks.length+1) (ks.flatMap AR++AR q)) (hc:Chg (· = .slots) oG o1 w3 w4) (hl:Ac o1 w4) :
 KeyS W0 mb r clock es (seen.push e.born) (ks++[q]) (sl++[e]) v' o1 w4:=by
 have g0:r<wr.heap.size:=(Vr.1 h.it).1;have z2:w2.heap.size=wr.heap.size:=by rw[hw2];rcases hw1 with rfl|rfl<;>simp[setBlock]
 have i2:w2.heap[r]?=some (.mapIter (some mb) clock (seen.push e.born) clock):=by rw[hw2];rcases hw1 with rfl|rfl<;>simp[setBlock,g0]
 have k2:∀ g,g≠r->w2.heap[g]?=wr.heap[g]?:=fun g hg=>by
  rw[hw2];rcases hw1 with rfl|rfl<;>simp[setBlock,Xq,Wn hg]<;>rfl
 have b2:Bw W0 w2:=h.low.trans ⟨by rw[hw2];rcases hw1 with rfl|rfl<;>rfl,by rw[hw2];rcases hw1 with rfl|rfl<;>rfl,by rw[hw2];rcases hw1 with rfl|rfl<;>rfl,by omega,fun g hg=>k2 g (by omega)⟩;have nn:∀ g,g<W0.heap.size->oG g=none:=fun g hg=>by
  cases eo:oG g with
  | none=>rfl
  | some r=>have:=(h.ge g r eo).2;omega
 have s0:=h.low.size;have b3:=b2.trans (hb3.mono (by omega));refine⟨b3.trans ⟨hc.os,hc.tape,hc.output,hc.size,fun g hg=>hc.alien (by have:=b3.size;omega) (nn g hg)⟩,?_,h.came.next he hq,by simpa using hr,hl,fun g q hg=>?_,hc.alien' (by have:=hb3.size;omega) h.no,by have h1:=left_shrinks es seen e he;have h2:=h.cnt;simp;omega⟩
 . rw[hc.alien (by have:=hb3.size;omega) h.no,hb3.block r (by omega)];exact i2
 ·by_cases eo:o1 g=oG g
  . rw[eo] at hg;exact h.ge g q hg
  ·obtain⟨a1,p,a2,a3⟩:=hc.new g eo;rw[hg] at a2;cases a2
   have:=hb3.size;exact⟨a3,by omega⟩
theorem KeyS.row3 {r:Nat}{es:Array MapEntry}{ks:List (Nat×Nat)}{sl:List MapEntry}{wr w2 w3:Wd}(h:KeyS W0 mb r clock es seen ks sl v oG wr){x:Obj}(hw1:w1=wr\/w1=wr.drew)(hw2:w2=setBlock w1 r x)(hb3:Bw w2 w3) :
 RowR oG w3 .slots 280 2 v ks.length (ks.flatMap AR)/\Ac oG w3:=by
 have z2:w2.heap.size=wr.heap.size:=by rw[hw2];rcases hw1 with rfl|rfl<;>simp[setBlock]
 have k2:∀ g,g≠r->w2.heap[g]?=wr.heap[g]?:=fun g hg=>by
  rw[hw2];rcases hw1 with rfl|rfl<;>simp[setBlock,Xq,Wn hg]<;>rfl
 refine⟨h.row.keep (fun g hg=>?_) (fun _ h=>h),h.lt.mono (by have:=hb3.size;omega)⟩;have h1:=h.lt g _ hg;rw[hb3.block g (by omega)];exact k2 g (by rintro rfl;rw[h.no] at hg;cases hg)
end Go.Proofs.YtkidaindpahefaaGreat

namespace Go.Proofs
open Go.Proofs.Tryz
open Go.Shelf
def Tryz.sortKeys_ren:Go.Shelf.Ren:=⟨fun|6=>269|15=>137|14=>273|28=>193|29=>194|20=>275|21=>276|22=>277|23=>278|24=>279|25=>280|26=>281|27=>282|46=>283|47=>238|48=>239|49=>284|50=>285|57=>286|n=>n,fun|22=>297|24=>280|25=>307|3=>3|39=>170|0=>0|53=>223|55=>163|4=>4|46=>217|45=>216|50=>88|5=>5|9=>9|66=>264|70=>268|76=>298|77=>137|n=>n,fun|n=>n⟩
theorem Tryz.sortKeys:Go.Proofs.SlLaysF0.n6 prog Tryz.sortKeys_ren:={
 mixed:=by kernel_rfl
 f6:=⟨Tryz.f269.name,by decide,func269.trans (congrArg some (by kernel_rfl))⟩
 f14:=⟨Tryz.f273.name,by decide,func273.trans (congrArg some (by kernel_rfl))⟩
 f15:=func137.trans (congrArg some (by kernel_rfl))
 f20:=⟨Tryz.f275.name,by decide,func275.trans (congrArg some (by kernel_rfl))⟩
 f21:=⟨Tryz.f276.name,by decide,func276.trans (congrArg some (by kernel_rfl))⟩
 f22:=⟨Tryz.f277.name,by decide,func277.trans (congrArg some (by kernel_rfl))⟩
 f23:=⟨Tryz.f278.name,by decide,func278.trans (congrArg some (by kernel_rfl))⟩
 f24:=⟨Tryz.f279.name,by decide,func279.trans (congrArg some (by kernel_rfl))⟩
 f25:=⟨Tryz.f280.name,by decide,func280.trans (congrArg some (by kernel_rfl))⟩
 f26:=⟨Tryz.f281.name,by decide,func281.trans (congrArg some (by kernel_rfl))⟩
 f27:=⟨Tryz.f282.name,by decide,func282.trans (congrArg some (by kernel_rfl))⟩
 f28:=func193.trans (congrArg some (by kernel_rfl))
 f29:=func194.trans (congrArg some (by kernel_rfl))
 f46:=⟨Tryz.f283.name,by decide,func283.trans (congrArg some (by kernel_rfl))⟩
 f47:=func238.trans (congrArg some (by kernel_rfl))
 f48:=func239.trans (congrArg some (by kernel_rfl))
 f49:=⟨Tryz.f284.name,by decide,func284.trans (congrArg some (by kernel_rfl))⟩
 f50:=⟨Tryz.f285.name,by decide,func285.trans (congrArg some (by kernel_rfl))⟩
 f57:=⟨Tryz.f286.name,by decide,func286.trans (congrArg some (by kernel_rfl))⟩
 t0:=underlying0
 a0:=Tryz.isAgg0
 z0:=Tryz.sizeOf0
 v0:=zeroValue0
 t3:=underlying3
 a3:=Tryz.isAgg3
 z3:=Tryz.sizeOf3
 v3:=zeroValue3
 t4:=underlying4
 a4:=Tryz.isAgg4
 z4:=Tryz.sizeOf4
 v4:=zeroValue4
 t5:=underlying5
 a5:=Tryz.isAgg5
 z5:=Tryz.sizeOf5
 v5:=zeroValue5
 t9:=underlying9
 a9:=Tryz.isAgg9
 z9:=Tryz.sizeOf9
 v9:=zeroValue9
 t22:=underlying297
 a22:=Tryz.isAgg297
 z22:=Tryz.sizeOf297
 v22:=zeroValue297
 t25:=underlying307
 a25:=Tryz.isAgg307
 z25:=Tryz.sizeOf307
 v25:=zeroValue307
 t39:=underlying170
 a39:=Tryz.isAgg170
 z39:=Tryz.sizeOf170
 v39:=zeroValue170
 t45:=underlying216
 a45:=Tryz.isAgg216
 z45:=Tryz.sizeOf216
 v45:=zeroValue216
 t46:=underlying217
 a46:=Tryz.isAgg217
 z46:=Tryz.sizeOf217
 v46:=zeroValue217
 t50:=underlying88
 a50:=Tryz.isAgg88
 z50:=Tryz.sizeOf88
 v50:=zeroValue88
 t53:=underlying223
 a53:=Tryz.isAgg223
 z53:=Tryz.sizeOf223
 v53:=zeroValue223
 t55:=underlying163
 a55:=Tryz.isAgg163
 z55:=Tryz.sizeOf163
 v55:=zeroValue163
 t66:=underlying264
 a66:=Tryz.isAgg264
 z66:=Tryz.sizeOf264
 v66:=zeroValue264
 t70:=underlying268
 a70:=Tryz.isAgg268
 z70:=Tryz.sizeOf268
 v70:=zeroValue268
 t76:=underlying298
 a76:=Tryz.isAgg298
 z76:=Tryz.sizeOf298
 v76:=zeroValue298
 t77:=underlying137
 a77:=Tryz.isAgg137
 z77:=Tryz.sizeOf137
 v77:=zeroValue137 }
def Tryz.cmpInt_ren:Go.Shelf.Ren:=⟨fun|5=>90|7=>138|n=>n,fun|22=>3|3=>3|4=>4|n=>n,fun|n=>n⟩
theorem Tryz.cmpInt:Go.Proofs.SlLaysC2.n5 prog Tryz.cmpInt_ren:={
 mixed:=by kernel_rfl
 f5:=⟨Tryz.f90.name,by decide,func90.trans (congrArg some (by kernel_rfl))⟩
 f7:=⟨Tryz.f138.name,by decide,func138.trans (congrArg some (by kernel_rfl))⟩
 t3:=underlying3
 a3:=Tryz.isAgg3
 z3:=Tryz.sizeOf3
 v3:=zeroValue3
 t4:=underlying4
 a4:=Tryz.isAgg4
 z4:=Tryz.sizeOf4
 v4:=zeroValue4
 t22:=underlying3
 a22:=Tryz.isAgg3
 z22:=Tryz.sizeOf3
 v22:=zeroValue3 }
def Tryz.cmpEdge_ren:Go.Shelf.Ren:=⟨fun|5=>271|7=>274|n=>n,fun|22=>101|3=>3|4=>4|n=>n,fun|n=>n⟩
theorem Tryz.cmpEdge:Go.Proofs.SlLaysC2.n5 prog Tryz.cmpEdge_ren:={
 mixed:=by kernel_rfl
 f5:=⟨Tryz.f271.name,by decide,func271.trans (congrArg some (by kernel_rfl))⟩
 f7:=⟨Tryz.f274.name,by decide,func274.trans (congrArg some (by kernel_rfl))⟩
 t3:=underlying3
 a3:=Tryz.isAgg3
 z3:=Tryz.sizeOf3
 v3:=zeroValue3
 t4:=underlying4
 a4:=Tryz.isAgg4
 z4:=Tryz.sizeOf4
 v4:=zeroValue4
 t22:=underlying101
 a22:=Tryz.isAgg101
 z22:=Tryz.sizeOf101
 v22:=zeroValue101 }
end Go.Proofs

namespace Go.Proofs.YtkidaindpahefaaGreat
open Go.Proofs.Tryz
open Go.RowKit Go.Shelf Go.Lib Go.Sort
variable {C:Nat->Prop}{F:BF}{K:Law}{Od:List Nat->Prop}{Q:Exit->Act->Wd->Prop}{T:TypeId}{V:Nat->BF}{W W' w w' w0:Wd}{a:Act}{b base cap g i k mb n room sb:Nat}{bs:List Bool}{d:Ae}{fs hs:List (Int×BF)}{ks zs:List Int}{lm:List ((Nat×Nat)×Value)}{m:ManD}{nx op:Int}{o':Own}{ops:Array Oper}{rest:List Oper}{rs:List Value}{v v' vl vx z:Value}
def orI:List Int->Int
 | []=>0
 | z::zs=>if z=0 then orI zs else z
theorem QM (hk:k<zs.length):orI (zs.drop k)=if at0 zs k=0 then orI (zs.drop (k+1)) else at0 zs k:=by
 rw[As hk,VT hk];rfl
theorem QN (a:Option Addr)(c:Nat)(zs:List Int)(w:Wd)(hz:Ar w a zs)(hl:zs.length<=1000000) :
 Cl 89 #[.slice a zs.length c] w fun x w'=>x=.returned (Iv (orI zs))/\w'=w:=by
 have HZ:=Hd hz;clear hz
 go_enter func89,ntmps89
 go_wp2_with fail
 go_loopw [8] (fun s8 wr=>∃ k:Nat,k<=zs.length/\s8=Iv k/\w=wr/\orI zs=orI (zs.drop k)) (fun s8 _=>zs.length-(intOf s8).toNat)
 case atStart=>exact⟨0,VC _,rfl,rfl,rfl⟩
 case round =>
  obtain⟨k,hk,rfl,rfl,ho⟩:=hrel
  by_cases g0:k<zs.length
  ·obtain⟨b,off,ha,hc⟩:=HZ.o.cells k g0;subst ha;have g2:(k:Int)<zs.length:=by omega
   have hs:=QM g0
   by_cases h0:at0 zs k=0
   ·rw[Vw h0] at hs;rw[h0] at hc;have HO:=Hd (ho.trans hs);clear ho hs h0;go_wp2_with fail;go_roundw
    case rel=>exact⟨k+1,by omega,by go_num,trivial,HO.o⟩
    case measure=>simp[intOf];omega
   ·rw[Vs h0] at hs;have HO:=Hd (ho.trans hs);have g1:(at0 zs k == (0:Int))=false:=by simpa using h0
    clear ho hs h0
    generalize at0 zs k=z at hc g1 HO
    go_wp2_with fail;go_ret;exact⟨by rw[HO.o];rfl,rfl⟩
  ·obtain rfl:k=zs.length:=by omega
   have HO:Hq (orI zs=0):=by
    refine Hd ?_
    show _=_
    rw[ho];simp[orI]
   clear ho;go_wp2_with fail;go_ret;exact⟨by rw[HO.o];rfl,rfl⟩
def cfK (f:Nat×Nat->Option Nat)(x y:Nat×Nat):Int:=orI [compareInt ((f x).getD 0:Nat) ((f y).getD 0:Nat),compareInt x.1 y.1,compareInt x.2 y.2]
theorem ltK (f:Nat×Nat->Option Nat)(x y:Nat×Nat):ltOf (cfK f) x y=decide ((f x).getD 0<(f y).getD 0\/(f x).getD 0=(f y).getD 0/\(x.1<y.1\/x.1=y.1/\x.2<y.2)):=by
 unfold ltOf cfK
 generalize (f x).getD 0=a
 generalize (f y).getD 0=b
 obtain⟨x1,x2⟩:=x;obtain⟨y1,y2⟩:=y;have hc:∀ p q:Nat,compareInt (p:Int) (q:Int)=if p<q then -1 else if p=q then 0 else 1:=fun p q=>by
  unfold compareInt
  by_cases h1:p<q
  . rw[Vw (by omega),Vw h1]
  ·by_cases h2:p=q
   . rw[Vs (by omega),Vs (by omega),Vs h1,Vw h2]
   . rw[Vs (by omega),Vw (by omega),Vs h1,Vs h2]
 simp only[hc,orI]
 by_cases h1:a<b
 . simp[h1]
 ·by_cases h2:a=b
  ·subst h2
   by_cases h3:x1<y1
   . simp[h3]
   ·by_cases h4:x1=y1
    ·subst h4
     by_cases h5:x2<y2
     . simp[h5]
     ·by_cases h6:x2=y2
      . subst h6;simp
      . simp[h5,h6]
    . simp[h3,h4]
  . simp[h1,h2]
theorem swoK (f:Nat×Nat->Option Nat):SWO (ltOf (cfK f)) where
 irrefl x:=by rw[ltK];simp
 trans x y z h1 h2:=by rw[ltK] at *;simp at *;omega
 ntrans x y z h1 h2:=by rw[ltK] at *;simp at *;omega
theorem QQ (f:Nat×Nat->Option Nat)(x y:Nat×Nat)(Bx t mb:Nat)(W:Wd)(cB:W.cell? (Av Bx)=some (Pt t))(cT:W.cell? (Av t)=some (.map (some mb)))
 (hlk:∀ W' k,Bw W W'->(Instr.lookup 228 (.map (some mb)) (.agg #[Iv (k:Nat×Nat).1,Iv k.2]) false).run prog W'=.ok (Iv ((f k).getD 0:Nat)) W') :
 Cl 270 #[.agg #[Iv x.1,Iv x.2],.agg #[Iv y.1,Iv y.2],Pt Bx] W fun e w'=>e=.returned (Iv (cfK f x y))/\∃ q os',w'=grow (W.drewN q) os':=by
 obtain⟨W1,g2⟩:=Ex ((W.alloc (.cells #[Iv x.1,Iv x.2] 280)).alloc (.cells #[Iv y.1,Iv y.2] 280));have g0:Bw W W1:=by rw[g2];exact(Ah _ _).alloc (by simp) _
 have g5:W1.heap[W.heap.size]?=some (.cells #[Iv x.1,Iv x.2] 280 (0,0)):=by rw[g2];exact(W9 _ _ _ (by simp)).trans (Vv W _)
 have g4:W1.heap[W.heap.size+1]?=some (.cells #[Iv y.1,Iv y.2] 280 (0,0)):=by
  rw[g2];have:=Vv (W.alloc (.cells #[Iv x.1,Iv x.2] 280)) (.cells #[Iv y.1,Iv y.2] 280)
  rwa [VK] at this
 obtain⟨x0,x1,_⟩:=cells2 g5;obtain⟨y0,y1,_⟩:=cells2 g4;have b1:=Cq g0 cB;have t1:=Cq g0 cT;obtain⟨i,hi⟩:=Ex (compareInt ((f x).getD 0:Nat) ((f y).getD 0:Nat):Int);obtain⟨j,hj⟩:=Ex (compareInt x.1 y.1:Int);obtain⟨k,hk⟩:=Ex (compareInt x.2 y.2:Int);have g6:cfK f x y=orI [i,j,k]:=by unfold cfK;rw[hi,hj,hk]
 obtain⟨W2,g3⟩:=Ex (W1.drew.alloc (.cells #[Iv i,Iv j,Iv k] 3));have g1:Bw W1 W2:=by rw[g3];exact(Am W1 1).alloc (Vu _) _
 have lx0:=hlk W1.drew x (g0.trans ((Am W1 1).mono g0.size));have ly0:=hlk W1.drew y (g0.trans ((Am W1 1).mono g0.size));have lx2:=hlk W2 x (g0.trans (g1.mono g0.size));have ly2:=hlk W2 y (g0.trans (g1.mono g0.size));have x02:=Cq g1 x0;have x12:=Cq g1 x1;have y02:=Cq g1 y0;have y12:=Cq g1 y1;have b2:=Cq g1 b1;have t2:=Cq g1 t1;have HI:=Hd (fun w=>AnyG.cmp_Compare_int Tryz.cmpInt ((f x).getD 0:Nat) ((f y).getD 0:Nat) w);have HJ:=Hd (fun w=>AnyG.cmp_Compare_int Tryz.cmpEdge x.1 y.1 w);have HK:=Hd (fun w=>AnyG.cmp_Compare_int Tryz.cmpEdge x.2 y.2 w)
 have g8:Hq (Cl 89 #[.slice (some (Av W1.drew.heap.size)) 3 3] W2 fun e w'=>e=.returned (Iv (orI [i,j,k]))/\w'=W2):=Hd (QN _ 3 [i,j,k] W2 ⟨by simp,fun q hq=>⟨_,0,rfl,by
  rw[VW,g3,Vt _ _ _ _ _ _ (Vv W1.drew _)];simp only[VO,WN] at hq
  match q,hq with
  | 0,_=>rfl
  | 1,_=>rfl
  | 2,_=>rfl⟩⟩ (by simp))
 have HW1:Hq (_=W1):=Hd g2.symm;have g7:Hq (_=W2):=Hd g3.symm;have g9:Hq (W2=grow (W.drewN 1) #[.cells #[Iv x.1,Iv x.2] 280,.cells #[Iv y.1,Iv y.2] 280,.cells #[Iv i,Iv j,Iv k] 3]):=Hd (by rw[g3,g2,FJ,FJ,alloc_eq_grow,alloc_eq_grow,alloc_eq_grow,grow_grow,grow_grow];rfl);rw[<- hi] at HI;rw[<- hj] at HJ;rw[<- hk] at HK;rw[g6];clear g2 g3 g0 g1 hlk cB cT hi hj hk g6 g5 g4
 go_enter func270,ntmps270
 go_upto_region 1 with fail;rw[HW1.o];refine AJ (fun W:Wd=>W=W1.drew\/W=W2) false 26 [(0,false),(1,false),(2,false),(3,false),(4,false),(5,false),(6,false),(7,false),(8,false),(9,false),(10,false),(11,false),(13,false),(14,false),(15,false),(16,false),(18,false),(19,false),(20,false),(21,false),(12,true),(17,true),(22,true),(23,true),(24,true),(25,false)] (by kernel_rfl) (by kernel_rfl) (.inl rfl) ?_;simp only[planned,AH]
 iterate 20
  refine Aq rfl ?_;apply Exists.intro;refine⟨fun w' hw=>?_,?_⟩
  ·rcases hw with rfl|rfl
   . go_simp;rfl
   ·go_simp
    all_goals (try rfl)
  simp only[Ab]
 refine BH (R:=fun v w'=>v=Iv i/\w'=W1.drew) rfl (by go_simp;rfl) ((HI.o _).mono (fun e w' h=>⟨_,h.1,.inl h.2,rfl,h.2⟩)) ?_;rintro _ w' _ ⟨rfl,rfl⟩;simp only[Ab];refine BH (R:=fun v w'=>v=Iv j/\w'=W1.drew) rfl (by go_simp;rfl) ((HJ.o _).mono (fun e w' h=>⟨_,h.1,.inl h.2,rfl,h.2⟩)) ?_;rintro _ w' _ ⟨rfl,rfl⟩;simp only[Ab];refine BH (R:=fun v w'=>v=Iv k/\w'=W1.drew) rfl (by go_simp;rfl) ((HK.o _).mono (fun e w' h=>⟨_,h.1,.inl h.2,rfl,h.2⟩)) ?_;rintro _ w' _ ⟨rfl,rfl⟩;simp only[Ab];refine E7 rfl (fun K hK=>?_);unfold Oper.wp;go_simp;rw[FJ,g7.o];refine hK _ _ (.inr rfl) ?_;refine BH (R:=fun v w'=>v=Iv (orI [i,j,k])/\w'=W2) rfl (by go_simp) (g8.o.mono (fun e w' h=>⟨_,h.1,.inr h.2,rfl,h.2⟩)) ?_;rintro _ w' _ ⟨rfl,rfl⟩;simp only[Ab];refine Aq rfl ?_;apply Exists.intro;refine⟨fun w' hw=>?_,?_⟩
 . go_simp;rfl
 simp only[Ab];refine Bs ?_;go_wp2_with fail;go_ret;exact⟨rfl,_,_,g9.o⟩
open Go.RowKit
structure DE (T ST:TypeId)(z:Value)(b:Nat):Prop where
 under:prog.underlying ST=some (.slice T)
 info:(prog.info? T).map (fun i=>(i.zero,i.size,i.bytes))=some (some z,1,b)
 one:z.cells=#[z]
 small:b<=100
theorem FO:DE 3 22 (Iv 0) 8:=⟨underlying22,by kernel_rfl,rfl,by omega⟩
theorem Du:DE 4 90 (.bool false) 1:=⟨underlying90,by kernel_rfl,rfl,by omega⟩
theorem FP:DE 90 33 (.slice none 0 0) 24:=⟨underlying33,by kernel_rfl,rfl,by omega⟩
def OwnC (T:TypeId)(w:Wd)(base:Nat)(v:Value)(xs:List Value):Prop:=w.ownsRow base T 1 v xs.length xs
section
variable {ST:TypeId}{xs:List Value}
theorem OwnC.alloc (h:OwnC T w base v xs)(o:Obj):OwnC T (w.alloc o) base v xs:=World.ownsRow.alloc h o
theorem OwnC.lt (h:OwnC T w base v xs):∀ k,v.ownBlock=some k->base<=k/\k<w.heap.size:=World.ownsRow.lt h
theorem OwnC.same (h:OwnC T w base v xs)(hk:∀ k,v.ownBlock=some k->w'.heap[k]?=w.heap[k]?):OwnC T w' base v xs:=by
 refine⟨h.1,?_⟩;rcases h.2 with hn|⟨g,cap,cur,rfl,hb,g0,rest⟩
 . exact .inl hn
 . refine .inr ⟨g,cap,cur,rfl,hb,?_,rest⟩;rw[hk g rfl];exact g0
theorem OwnC.below (h:OwnC T w base v xs)(hb:Bw w w'):OwnC T w' base v xs:=h.same fun k hk=>hb.block k (h.lt k hk).2
theorem OwnC.shape (h:OwnC T w base v xs)(hp:0<xs.length):∃ g cap,v=.slice (some (Av g)) xs.length cap/\base<=g/\g<w.heap.size:=by
 rcases h.2 with ⟨_,h0⟩|⟨g,cap,cur,hv,hg,hh,_⟩
 . omega
 . exact⟨g,cap,hv,hg,(Vr.1 hh).1⟩
theorem OwnC.slice (h:OwnC T w base v xs):∃ a cap,v=.slice a xs.length cap/\(a=none->cap=0):=by
 rcases h.2 with ⟨hv,h0⟩|⟨g,cap,cur,hv,hg,hh,_⟩
 . exact⟨none,0,by rw[hv,h0],fun _=>rfl⟩
 . exact⟨_,cap,hv,by simp⟩
theorem OwnC.cell {g cap n:Nat}(h:OwnC T w base (.slice (some (Av g)) n cap) xs)(k:Nat)(hk:k<xs.length):w.cell? (Aw g k)=xs[k]?:=by
 have hn:n=xs.length:=by
  rcases h.2 with ⟨hv,_⟩|⟨_,_,_,hv,_⟩
  . cases hv
  . cases hv;rfl
 subst hn;exact World.ownsRow.cellAt h k (by omega)
theorem OwnC.frozen {g cap n:Nat}(h:OwnC T w base (.slice (some (Av g)) n cap) xs)(k:Nat):w.frozen? (Aw g k)=false:=by
 rcases h.2 with ⟨hv,_⟩|⟨_,_,_,hv,_⟩
 . cases hv
 . cases hv;exact World.ownsRow.frozenAt h k
theorem OwnC.stored {g cap n:Nat}(h:OwnC T w base (.slice (some (Av g)) n cap) xs)(k:Nat)(y:Value):OwnC T (w.setCell (Aw g k) y) base (.slice (some (Av g)) n cap) (xs.set k y):=by
 rcases h.2 with ⟨hv,_⟩|⟨_,_,_,hv,_⟩
 . cases hv
 . cases hv;have:=(World.ownsRow.stored h k y).1;unfold OwnC;rw[VQ];exact this
theorem OwnC.typed (h:OwnC T w base v xs):∀ k,v.ownBlock=some k->∃ cur,w.heap[k]?=some (.cells cur T (0,0)):=by
 intro k hk;rcases h.2 with ⟨rfl,_⟩|⟨g,cap,cur,rfl,_,hg,_⟩
 . cases hk
 . cases hk;exact⟨cur,hg⟩
theorem DF (T:TypeId)(w:Wd)(base:Nat)(hb:base<=w.heap.size):OwnC T (w.alloc (.cells #[] T)) base (.slice (some (Av w.heap.size)) 0 0) [] :=
 World.ownsRow_made w #[] 0 hb (by unfold maxLen;omega) (by simp)
theorem Iy (T:TypeId)(w:Wd)(base:Nat):OwnC T w base (.slice none 0 0) []:=World.ownsRow_nil w base T 1
theorem Cz (E:DE T ST z b)(wr:Wd){o:Oper}(hgd:o.guard=none)(s x:Operand)
 (ho:o.op=.call { callee:=.builtin .append,args:=#[s,x],argTypes:=#[ST,ST] })
 (base:Nat) (v:Value) (xs:List Value) (y:Value) (hs:a.eval s=v) {N:Nat} (hx:a.eval x=.slice (some (Av N)) 1 1)
 (hW:W=wr.alloc (.cells #[y] T)) (hN:N=wr.heap.size) (hy:y.oneCell'=true)
 (hown:OwnC T wr base v xs) (hlen:xs.length<1099511627776) (hbase:base<=wr.heap.size)
 (h:∀ v' w',OwnC T w' base v' (xs++[y])->w'.os=wr.os->w'.tape=wr.tape->w'.output=wr.output->wr.heap.size<=w'.heap.size->BA v v' wr w'->wpList prog ops Q rest (a.put o.dst v') w') :
 wpList prog ops Q (o::rest) a W:=by
 obtain⟨i,hi,hz,g1,g3⟩:=XC E.info;subst hN;subst hW
 have g2:=E.small;refine wpList_append_own_at (w:=wr.alloc (.cells #[y] T)) hgd s x ST ho base T i z 1 b E.under hi hz g1 g3 (by rw[E.one];rfl) (by decide)
  v xs.length xs hs (hown.alloc _) (Av wr.heap.size) 1 1 [y] hx rfl (cell_one_new _ _ _) (by intro u hu;simp at hu;subst hu;exact hy) (by unfold maxLen;omega) (by
   have h1:(xs.length+1)*b<=1099511627776*100:=XI (by omega) g2;omega) (by simp;omega) ?_
 intro v' w' h1 h2 _ g0;refine h v' w' ?_ h2.os h2.tape h2.output ?_ ⟨Gz h2,g0.imp id fun e=>⟨_,e,by simp⟩⟩
 . unfold OwnC;rw[Vx];exact h1
 . have:=h2.size;simp at this;omega
theorem EM {wr:Wd}(hb:Below base w0 wr)(hown:OwnC T wr base v xs)(h1:w'.os=wr.os)(h2:w'.tape=wr.tape)(h3:w'.output=wr.output)(h4:wr.heap.size<=w'.heap.size)(hk:BA v v' wr w')(hbase:base<=wr.heap.size):Below base w0 w' :=
 ⟨h1.trans hb.os,h2.trans hb.tape,h3.trans hb.output,Vy hb.size h4,fun k hkb=>(hk.keep k (by omega) (fun e=>by have:=(hown.lt k e.symm).1;omega)).trans (hb.block k hkb)⟩
theorem FQ (E:DE T ST z b){o:Oper}{wr:Wd}(hgd:o.guard=none)(l c:Operand)
 (ho:o.op=.makeSlice ST l c) (base:Nat) (w0:Wd) (L:Int) (n:Nat) (hl:a.eval l=Iv L) (hc:a.eval c=Iv L) (hL:L=n) (hn:n<1099511627776)
 (hbase:base<=wr.heap.size) (hb:Below base w0 wr)
 (h:∀ g w',OwnC T w' base (.slice (some (Av g)) n n) (List.replicate n z)->Below base w0 w'->base<=w'.heap.size->CD none wr w'->base<=g->g=wr.heap.size ->
  wpList prog ops Q rest (a.put o.dst (.slice (some (Av g)) n n)) w') :
 wpList prog ops Q (o::rest) a wr:=by
 obtain⟨i,hi,hz,g0,g2⟩:=XC E.info;have g1:=E.small
 refine wpList_make_full wr hgd l c ST ho base T i z 1 E.under hi hz g0 .i64 .i64 L L n hl hc hL hL (by
  have h1:i.bytes*n<=100*1099511627776:=XI (by omega) (by omega);omega) (by unfold maxLen;omega) hbase ?_
 intro w' h1 h2;refine h wr.heap.size w' ?_ (hb.grown h2 hbase (by simp)) (by have:=h2.size;omega) (Fh h2) hbase rfl;unfold OwnC;have e1:List.replicate n z=(madeCells z.cells (n*1)).toList:=by
  rw[E.one];simp[madeCells];apply Xh
  . simp
  . intro j h3 h4;simp[Nat.mod_one]
 rw[WS,e1];exact h1
end
def AL (bs:List Bool):List Value:=bs.map Value.bool
theorem FS (bs:List Bool):(AL bs).length=bs.length:=by simp[AL]
theorem getElem?_boolsV (h:k<bs.length):(AL bs)[k]?=some (.bool (bs.getD k false)):=by
 simp[AL,List.getD,h]
abbrev OwnB (w:Wd)(base:Nat)(v:Value)(bs:List Bool):Prop:=OwnC 4 w base v (AL bs)
def B6 (w:Wd)(v:Value)(bs:List Bool):Prop:=∃ a c,v=.slice a bs.length c/\Cd w a bs/\(a=none->c=0)
theorem B6.below {w w':Wd}{v:Value}{bs:List Bool}(h:B6 w v bs)(hb:Bw w w'):B6 w' v bs:=by
 obtain⟨a,c,rfl,h1,h2⟩:=h;exact⟨a,c,rfl,h1.below hb,h2⟩
theorem B6.same (h:B6 w v bs)(hk:∀ k,v.ownBlock=some k->w'.heap[k]?=w.heap[k]?):B6 w' v bs:=by
 obtain⟨a,c,rfl,h1,h2⟩:=h;refine⟨a,c,rfl,⟨h1.len,fun k g0=>?_⟩,h2⟩;obtain⟨g,off,rfl,hc⟩:=h1.cells k g0;exact⟨g,off,rfl,Co hc (hk g rfl)⟩
theorem OwnC.boolsIs (h:OwnB w base v bs)(hl:bs.length<=1000000):B6 w v bs:=by
 obtain⟨a,c,hv,hn⟩:=h.slice;have g1:=hv;rw[FS] at g1;refine⟨a,c,g1,⟨hl,fun k hk=>?_⟩,hn⟩;obtain⟨g,cap,g0,hb,hg⟩:=h.shape (by rw[FS];omega);have ea:a=some (Av g):=by rw[hv] at g0;injection g0
 subst ea;refine⟨g,0,rfl,?_⟩;subst hv;rw[VW,h.cell k (by rw[FS];exact hk),getElem?_boolsV hk]
theorem OwnC.setB (h:OwnB w base (.slice (some (Av g)) n cap) bs)(k:Nat)(y:Bool):OwnB (w.setCell (Aw g k) (.bool y)) base (.slice (some (Av g)) n cap) (bs.set k y):=by
 have:=h.stored k (.bool y);unfold OwnB;rw[show AL (bs.set k y)=(AL bs).set k (.bool y) by simp[AL,X9]];exact this
theorem OwnC.cellB (h:OwnB w base (.slice (some (Av g)) n cap) bs)(k:Nat)(hk:k<bs.length):w.cell? (Aw g k)=some (.bool (bs.getD k false)):=by
 rw[h.cell k (by rw[FS];exact hk),getElem?_boolsV hk]
def bitB (i v:Nat):Bool:=decide (i/2^v%2=1)
def AP (i n:Nat):List Bool:=(List.range n).map (bitB i)
def tabB (n:Nat)(F:BF):List Bool:=(List.range (2^n)).map fun i=>F (AF (AP i n))
theorem FT (i n:Nat):(AP i n).length=n:=by simp[AP]
theorem CA (n:Nat)(F:BF):(tabB n F).length=2^n:=by simp[tabB]
theorem EN (hi:i<2^n):(tabB n F).getD i false=F (AF (AP i n)):=by simp[tabB,List.getD,hi]
theorem Iz {v:Nat}:AF (AP i n) v=(decide (v<n)&&bitB i v):=by
 unfold AF AP
 by_cases h:v<n
 . simp[List.getD,h]
 . simp[List.getD,h]
theorem Ll (hl:bs.length=2^n)(h:∀ i,i<2^n->bs.getD i false=F (AF (AP i n))):bs=tabB n F:=by
 refine Xh (by rw[hl,CA]) fun i h1 h2=>?_
 have:=h i (by omega);have e:(tabB n F).getD i false=F (AF (AP i n)):=EN (by omega);rw[<- this] at e;simpa [List.getD,h1,h2] using e.symm
abbrev VX:=@Nat.pow_le_pow_right
theorem Ee (h:k<=20):2^k<=1048576:=VX (by omega) h
theorem I0 (v:Nat)(hv:v<=20)(w:Wd):Cl 158 #[Iv v] w (Sm (Iv (2^v:Nat)) w):=by
 have HS:Hq (∀ k,k<=v->2^k<=1048576):=Hd fun k hk=>Ee (by omega)
 go_enter func158,ntmps158
 go_wp2_with fail
 go_loopw [3,4] (fun s3 s4 wr=>∃ k p:Nat,k<=v/\s3=Iv p/\s4=Iv k/\w=wr/\Hq (2^k=p)) (fun _ s4 _=>v-(intOf s4).toNat)
 case atStart=>exact⟨0,1,VC _,rfl,rfl,rfl,Hd rfl⟩
 case round =>
  obtain⟨k,p,hk,rfl,rfl,rfl,HP⟩:=hrel
  by_cases g0:k<v
  ·have hp:p<=1048576:=by rw[<- HP.o];exact HS.o k hk
   go_wp2_with fail;go_roundw
   case rel=>exact⟨k+1,2*p,by omega,by go_num,by go_num,by simp,Hd (by rw[WZ,HP.o];omega)⟩
   case measure=>simp[intOf];omega
  ·have he:k=v:=by omega
   have HE:Hq (2^v=p):=by rw[<- he];exact HP
   clear he;go_wp2_with fail;go_ret;exact⟨by rw[HE.o];rfl,rfl⟩
theorem QR (i v:Nat)(hi:i<=1048576)(hv:v<=20)(w:Wd):Cl 183 #[Iv i,Iv v] w (Sm (.bool (bitB i v)) w):=by
 have HB:=Hd (I0 v hv w);have g0:0<2^v:=Xe (by omega);have g2:=Ee hv;obtain⟨p,hp⟩:=Ex (2^v);rw[<- hp] at g0 g2 HB;have g1:i/p<=i:=Nat.div_le_self _ _;have HF:Hq (((wrap64 ((i:Int)/(p:Int))).tmod 2 == 1)=bitB i v):=by
  refine Hd ?_;unfold bitB;rw[<- hp];have e0:(i:Int)/(p:Int)=((i/p:Nat):Int):=rfl;rw[e0]
  generalize i/p=q at g1 ⊢
  rw[IntWalk.wrap64_in _ (by omega)];have e1:Int.tmod (q:Int) 2=((q%2:Nat):Int):=by rw[X6 (by omega)];rfl
  rw[e1]
  by_cases h:q%2=1
  . rw[h];rfl
  ·have:((q%2:Nat):Int)≠1:=by omega
   rw[WT.2 this,WJ h]
 clear hp
 go_enter func183,ntmps183
 go_wp2_with fail;refine HB.o.mono ?_;rintro x w' ⟨rfl,rfl⟩;go_wp2_with fail;go_ret;exact⟨by rw[<- HF.o];rfl,rfl⟩
theorem QS {α:Type}(a b:α)(k n:Nat)(h:k<n):(List.replicate k a++List.replicate (n-k) b).set k a=List.replicate (k+1) a++List.replicate (n-(k+1)) b:=by
 have e:n-k=(n-(k+1))+1:=by omega
 rw[e,List.replicate_succ,X8 _ _ (by simp),WS,Nat.sub_self,List.set_cons_zero,List.replicate_succ',VH];rfl
theorem QT (b:Bool)(n:Nat)(hn:n<=16)(w:Wd):Cl 124 #[.bool b,Iv n] w fun x w'=>∃ g,x=.returned (.slice (some (Av g)) (2^n) (2^n))/\OwnB w' w.heap.size (.slice (some (Av g)) (2^n) (2^n)) (List.replicate (2^n) b)/\Bw w w':=by
 have HS:Hq (∀ k,k<=n->2^k<=1048576):=Hd fun k hk=>Ee (by omega)
 obtain⟨L,hL⟩:=Ex (2^n);have HL:=Hd hL;have g8:L<=1048576:=by rw[hL];exact Ee (by omega)
 rw[<- hL];clear hL
 go_enter func124,ntmps124
 go_wp2_with fail
 go_loopw [5,6] (fun s5 s6 wr=>∃ k p:Nat,k<=n/\s5=Iv p/\s6=Iv k/\w=wr/\Hq (2^k=p)) (fun _ s6 _=>n-(intOf s6).toNat)
 case atStart=>exact⟨0,1,VC _,rfl,rfl,rfl,Hd rfl⟩
 case round =>
  obtain⟨k,p,hk,rfl,rfl,rfl,HP⟩:=hrel
  by_cases g3:k<n
  ·have hp:p<=1048576:=by rw[<- HP.o];exact HS.o k hk
   go_wp2_with fail;go_roundw
   case rel=>exact⟨k+1,2*p,by omega,by go_num,by go_num,by simp,Hd (by rw[WZ,HP.o];omega)⟩
   case measure=>simp[intOf];omega
  ·have he:k=n:=by omega
   have hp:p=L:=by rw[<- HP.o,he,HL.o]
   subst hp;clear he;go_wp2_with (at_make;refine FQ Du rfl _ _ rfl w.heap.size w _ p rfl rfl rfl (by omega) (Vu _) (VI _ _) ?_;intro g w1 g2 g6 hs1 g7 g5 g4;clear g4)
   go_loopw [8] (fun i wr=>∃ j:Nat,j<=p/\i=Iv j/\OwnB wr w.heap.size (.slice (some (Av g)) p p) (List.replicate j b++List.replicate (p-j) false)/\Bw w wr) (fun i _=>p-(intOf i).toNat)
   case atStart=>exact⟨0,by omega,rfl,by unfold OwnB;rw[show AL (List.replicate 0 b++List.replicate (p-0) false)=List.replicate p (Value.bool false) by simp[AL]];exact g2,g6⟩
   case round =>
    obtain⟨j,hj,rfl,g0,g1⟩:=hrel
    by_cases g3:j<p
    ·have q0:=g0.cellB j (by simp;omega);have p0:=g0.frozen j;go_wp2_with fail;go_roundw
     case rel=>exact⟨j+1,by omega,by go_num,by rw[<- QS b false j p g3];exact g0.setB j b,g1.setCell g5 _⟩
     case measure=>simp[intOf];omega
    ·obtain rfl:j=p:=by omega
     go_wp2_with fail;go_ret;exact⟨_,rfl,by simpa using g0,g1⟩
theorem Lm {α:Type}{l m:List α}{y:α}(hk:k<l.length)(hm:k<m.length)(hy:m[k]=y):(m.take k++l.drop k).set k y=m.take (k+1)++l.drop (k+1):=by
 have h1:(m.take k).length=k:=by simp;omega
 rw[X8 _ _ (by omega),h1,Nat.sub_self,VT hk,List.set_cons_zero,Vz hm,hy,VH];rfl
theorem QU (n:Nat)(hn:n<=64)(w:Wd):Cl 176 #[Iv n,Iv 0,Iv 64] w (Sm (Iv n) w):=by
 go_enter func176,ntmps176
 go_wp2_with fail;go_ret;exact⟨rfl,rfl⟩
theorem Ln (i n:Nat):AP i (n+1)=AP i n++[bitB i n]:=by simp[AP,XM]
section
variable {o:Own}
theorem SatE.eval (h:SatE K n Od room w0 mb fs nx w o m V){k:Int}(hk:(k,F)∈fs)(hbs:B6 w v bs) :
 Cl 125 #[Pt mb,Iv k,v] w (Bl (.tuple #[.bool (F (AF bs)),Iv 0]) w):=by
 obtain⟨f,hf,e1⟩:=h.find hk;obtain⟨a,c,rfl,h1,_⟩:=hbs;rw[<- e1];exact Qk h.is h.lt h.ok hf a c bs h1
theorem SatE.vars_any (h:SatE K n Od room w0 mb fs nx w o m V):Cl 62 #[Pt mb] w (Sm (Iv n) w):=by
 have:=KL h.is;rw[h.vars] at this;exact this
theorem SatE.handles_any (h:SatE K n Od room w0 mb fs nx w o m V):Cl 73 #[Pt mb] w (Sm (Iv (fs.length:Nat)) w):=by
 have e:fs.length=m.hs.length:=by rw[<- h.hs,VP]
 rw[e];exact Go.Proofs.YtkidaindpahefaaGreat.Vo h.is
theorem QV (h:SatE K n Od room w0 mb fs nx w o m V)(q:Nat)(hq:q<=1000000) :
 Cl 29 #[Pt mb,Iv q] w (Sm (.bool (decide (fs.length=q+2))) w):=by
 have HH:=Hd h.handles_any;have HF:Hq ((((fs.length:Nat):Int) == (q:Int)+2)=decide (fs.length=q+2)):=by
  refine Hd ?_
  show (((fs.length:Nat):Int) == (q:Int)+2)=_
  by_cases e:fs.length=q+2
  . rw[WV e,XP];omega
  . rw[WJ e,WT];omega
 clear h
 go_enter func29,ntmps29
 go_wp2_with fail;refine HH.o.mono ?_;rintro x w' ⟨rfl,rfl⟩;go_wp2_with fail;go_ret;exact⟨by rw[<- HF.o];rfl,rfl⟩
theorem QW (i:Nat)(hi:i<=1048576):(IntKind.u64).wrap (i:Int)=(i:Int):=by
 simp[IntKind.wrap,IntKind.bits];omega
end
structure FU (P:Nat->Prop)(w:Wd)(a:Option Addr)(us:List (List Bool)):Prop where
 len:us.length<=1000000
 cells:∀ k,k<us.length->∃ b off v,a=some (Aw b off)/\w.cell? (Aw b (off+k))=some v/\B6 w v (us.getD k [])/\∀ g,v.ownBlock=some g->P g
theorem FU.below {P:Nat->Prop}{w w':Wd}{a:Option Addr}{us:List (List Bool)}(h:FU P w a us)(hb:Bw w w'):FU P w' a us :=
 ⟨h.len,fun k hk=>by
  obtain⟨b,off,v,rfl,hc,hv,hp⟩:=h.cells k hk;exact⟨b,off,v,rfl,(Cq hb hc),hv.below hb,hp⟩⟩
structure LawR (P:Nat->Prop)(n:Nat)(fs:List (Int×BF))(w:Wd)(vl vx:Value)(hs:List (Int×BF)):Prop where
 sub:∀ p∈hs,p∈fs
 small:hs.length<=1000
 l:∃ a c,vl=.slice a hs.length c/\Ar w a (hs.map Prod.fst)
 x:∃ a c,vx=.slice a hs.length c/\FU P w a (hs.map fun p=>tabB n p.2)
theorem QX (n:Nat)(b:Bool):List.replicate (2^n) b=tabB n fun _=>b:=Ll (by simp) fun i hi=>by simp[List.getD,hi]
structure LawL (W:Wd)(o:Own)(base:Nat)(vl:Value)(ks:List Int):Prop where
 own:OwnC 3 W base vl (Au ks)
 no:∀ k,vl.ownBlock=some k->o k=none
structure LawB (W:Wd)(o:Own)(base:Nat)(v:Value)(bs:List Bool):Prop where
 is:B6 W v bs
 no:∀ k,v.ownBlock=some k->base<=k/\k<W.heap.size/\o k=none/\∃ cur,W.heap[k]?=some (.cells cur 4 (0,0))
structure LawX (W:Wd)(o:Own)(base:Nat)(vx:Value)(us:List (List Bool)):Prop where
 ex:∃ rs:List Value,rs.length=us.length/\OwnC 90 W base vx rs/\∀ i v,rs[i]?=some v->LawB W o base v (us.getD i [])
 no:∀ k,vx.ownBlock=some k->o k=none
section
variable {o:Own}{us:List (List Bool)}
theorem LawL.chg (h:LawL W o base vl ks)(hc:ChgX NoB o o' W W'):LawL W' o' base vl ks :=
 ⟨h.own.same fun k hk=>hc.block k (h.own.lt k hk).2 (h.no k hk) (fun e=>e),fun k hk=>hc.none' (h.own.lt k hk).2 (h.no k hk)⟩
theorem LawB.chg (h:LawB W o base v bs)(hc:ChgX NoB o o' W W'):LawB W' o' base v bs :=
 ⟨h.is.same fun k hk=>hc.block k (h.no k hk).2.1 (h.no k hk).2.2.1 (fun e=>e),fun k hk=>by
  obtain⟨h1,h2,h3,cur,h4⟩:=h.no k hk;exact⟨h1,VJ h2 hc.size,hc.none' h2 h3,cur,(hc.block k h2 h3 (fun e=>e)).trans h4⟩⟩
theorem LawX.chg (h:LawX W o base vx us)(hc:ChgX NoB o o' W W'):LawX W' o' base vx us:=by
 obtain⟨rs,h1,h2,h3⟩:=h.ex;exact⟨⟨rs,h1,h2.same fun k hk=>hc.block k (h2.lt k hk).2 (h.no k hk) (fun e=>e),fun i v hv=>(h3 i v hv).chg hc⟩,fun k hk=>hc.none' (h2.lt k hk).2 (h.no k hk)⟩
theorem CJ (hb:Bw W W')(o:Own):ChgX NoB o o W W':=ChgX.of_below hb o NoB
theorem LawL.typ (h:LawL W o base vl ks)(hw:Wr C W W')(hT:T≠3)(hC:∀ k,C k->∃ cur,W.heap[k]?=some (.cells cur T (0,0))):LawL W' o base vl ks :=
 ⟨h.own.same fun k hk=>hw.keep k (h.own.lt k hk).2 fun e=>by
  obtain⟨c1,h1⟩:=hC k e;obtain⟨c2,h2⟩:=h.own.typed k hk;rw[h1] at h2;cases h2;exact hT rfl,h.no⟩
theorem LawB.typ (h:LawB W o base v bs)(hw:Wr C W W')(hT:T≠4)(hC:∀ k,C k->∃ cur,W.heap[k]?=some (.cells cur T (0,0))):LawB W' o base v bs:=by
 have hk:∀ k,v.ownBlock=some k->W'.heap[k]?=W.heap[k]?:=fun k hk=>by
  obtain⟨h1,h2,h3,cur,h4⟩:=h.no k hk;exact hw.keep k h2 fun e=>by
   obtain⟨c1,q1⟩:=hC k e;rw[q1] at h4;cases h4;exact hT rfl
 exact⟨h.is.same hk,fun k g0=>by
  obtain⟨h1,h2,h3,cur,h4⟩:=h.no k g0;exact⟨h1,VJ h2 hw.size,h3,cur,(hk k g0).trans h4⟩⟩
theorem LawX.typ {C:Nat->Prop}(h:LawX W o base vx us)(hw:Wr C W W'){T:TypeId}(hT:T≠4)(hT2:T≠90)(hC:∀ k,C k->∃ cur,W.heap[k]?=some (.cells cur T (0,0))):LawX W' o base vx us:=by
 obtain⟨rs,h1,h2,h3⟩:=h.ex
 exact⟨⟨rs,h1,h2.same fun k hk=>hw.keep k (h2.lt k hk).2 fun e=>by
  obtain⟨c1,q1⟩:=hC k e;obtain⟨c2,q2⟩:=h2.typed k hk;rw[q1] at q2;cases q2;exact hT2 rfl,fun i v hv=>(h3 i v hv).typ hw hT hC⟩,h.no⟩
theorem EO (h1:W'.os=W.os)(h2:W'.tape=W.tape)(h3:W'.output=W.output)(h4:W.heap.size<=W'.heap.size)(hk:BA v v' W W'):Wr (fun k=>v.ownBlock=some k) W W' :=
 ⟨h1,h2,h3,h4,fun k hlt hn=>hk.keep k hlt (fun e=>hn e.symm)⟩
theorem LawL.app {k:Int}(h:LawL W o base vl ks)(hlt:Ac o W)(hn:OwnC 3 W' base v' (Au ks++[Iv k]))(hk:BA vl v' W W'):LawL W' o base v' (ks++[k]):=by
 refine⟨by rw[show Au (ks++[k])=Au ks++[Iv k] by simp[Au]];exact hn,fun q hq=>?_⟩;rcases hk.loc with e|⟨g,e,hg⟩
 . exact h.no q (by rw[<- e];exact hq)
 . rw[e] at hq;cases hq;exact hlt.none hg
theorem LawX.app (h:LawX W o base vx us)(hlt:Ac o W)(hrs:rs.length=us.length)(hall:∀ i v,rs[i]?=some v->LawB W o base v (us.getD i []))(hw:Wr (fun k=>vx.ownBlock=some k) W W')(hT:∀ k,vx.ownBlock=some k->∃ cur,W.heap[k]?=some (.cells cur 90 (0,0)))
 (hb:LawB W o base v bs) (hn:OwnC 90 W' base v' (rs++[v])) (hk:BA vx v' W W'):LawX W' o base v' (us++[bs]):=by
 refine⟨⟨rs++[v],by simp[hrs],hn,fun i u hu=>?_⟩,fun q hq=>?_⟩
 ·rcases VE i rs.length with hi|hi
  ·rw[VS hi] at hu;have e:(us++[bs]).getD i []=us.getD i []:=by simp[List.getD,VS (show i<us.length by omega)]
   rw[e];exact(hall i u hu).typ hw (by decide) hT
  ·rw[Wk hi] at hu;have g0:i=rs.length:=by
    have:=(Wf.1 hu).1;simp at this;omega
   subst g0;simp at hu;subst hu;have e:(us++[bs]).getD rs.length []=bs:=by rw[hrs];simp[List.getD]
   rw[e];exact hb.typ hw (by decide) hT
 ·rcases hk.loc with e|⟨g,e,hg⟩
  . exact h.no q (by rw[<- e];exact hq)
  . rw[e] at hq;cases hq;exact hlt.none hg
theorem QY {n:Nat}(h:OwnB W' W.heap.size v bs)(hl:bs.length<=1000000)(hlt:Ac o W)(hb:base<=W.heap.size):LawB W' o base v bs :=
 ⟨OwnC.boolsIs h hl,fun k hk=>by
  have h1:=h.lt k hk;exact⟨by omega,h1.2,hlt.none h1.1,h.typed k hk⟩⟩
theorem Lo (hl:LawL W o base vl (hs.map Prod.fst))(hx:LawX W o base vx (hs.map fun p=>tabB n p.2))(hsub:∀ p∈hs,p∈fs)(hsm:hs.length<=1000) :
 LawR (fun g=>base<=g/\g<W.heap.size/\o g=none/\∃ cur,W.heap[g]?=some (.cells cur 4 (0,0))) n fs W vl vx hs:=by
 obtain⟨rs,h1,h2,h3⟩:=hx.ex;obtain⟨al,cl,e1,_⟩:=hl.own.slice;obtain⟨ax,cx,e2,_⟩:=h2.slice;have l1:(Au (hs.map Prod.fst)).length=hs.length:=by simp[Au]
 have l2:rs.length=hs.length:=by rw[h1];simp
 rw[l1] at e1;rw[l2] at e2;refine⟨hsub,hsm,⟨al,cl,e1,⟨by simp;omega,fun k hk=>?_⟩⟩,⟨ax,cx,e2,⟨by simp;omega,fun k hk=>?_⟩⟩⟩
 ·obtain⟨g,cap,e3,_⟩:=hl.own.shape (by rw[l1];simp at hk;omega);rw[e1] at e3;injection e3 with e3
  subst e3;have hc:=hl.own;rw[e1] at hc;refine⟨g,0,rfl,?_⟩;rw[VW,hc.cell k (by rw[l1];simpa using hk),Au,WP,getElem?_at0 hk];rfl
 ·obtain⟨g,cap,e3,_⟩:=h2.shape (by rw[l2];simp at hk;omega);rw[e2] at e3;injection e3 with e3
  subst e3;have hc:=h2;rw[e2] at hc;have g0:k<rs.length:=by rw[h1];exact hk
  have hb:=h3 k rs[k] (VA g0);refine⟨g,0,rs[k],rfl,?_,hb.is,hb.no⟩;rw[VW,hc.cell k g0,VA g0]
end
def okI (z:Int):Prop:=-9223372036854775808<=z/\z<=9223372036854775807
inductive ExT where
 | nil
 | mk (op v:Int) (n:Nat) (kid:Nat->ExT)
def sumN:Nat->(Nat->Nat)->Nat
 | 0,_=>0
 | k+1,f=>sumN k f+f k
theorem Lp {f:Nat->Nat}{j:Nat}:∀ (k:Nat),j<k->f j<=sumN k f
 | 0,h=>by omega
 | k+1,h=>by
   unfold sumN
   by_cases e:j=k
   . subst e;omega
   . have:=Lp (f:=f) k (show j<k by omega);omega
def ExT.size:ExT->Nat
 | .nil=>1
 | .mk _ _ n kid=>1+sumN n fun i=>(kid i).size
theorem ExT.size_pos (e:ExT):1<=e.size:=by cases e<;>unfold ExT.size<;>omega
instance:Inhabited ExT:=⟨.nil⟩
theorem ExT.kid_size {v:Int}{kid:Nat->ExT}(h:i<n):(kid i).size<(ExT.mk op v n kid).size:=by
 have h1:(kid i).size<=sumN n fun i=>(kid i).size:=Lp (f:=fun i=>(kid i).size) n h
 show (kid i).size<1+sumN n fun i=>(kid i).size
 omega
def A5 (w:Wd):ExT->Value->Prop
 | .nil,_=>False
 | .mk op v n kid,x=>∃ a c,x=.agg #[.int .i64 op,.int .i64 v,.slice a n c]/\okI op/\okI v/\n<=9223372036854775807 /\
  ∀ k,k<n->∃ b off x0 x1 x2,a=some (Aw b off)/\w.cell? (Aw b (off+k*3))=some x0/\w.cell? (Aw b (off+k*3+1))=some x1/\w.cell? (Aw b (off+k*3+2))=some x2/\A5 w (kid k) (.agg #[x0,x1,x2])
theorem A5.below {w w':Wd}(hb:Bw w w'):∀ (e:ExT) {x:Value},A5 w e x->A5 w' e x
 | .nil,_,h=>by unfold A5 at h;exact h.elim
 | .mk op v n kid,x,h=>by
   unfold A5 at h ⊢;obtain⟨a,c,h1,h2,h3,h4,h5⟩:=h;refine⟨a,c,h1,h2,h3,h4,fun k hk=>?_⟩;obtain⟨b,off,x0,x1,x2,rfl,c0,c1,c2,hx⟩:=h5 k hk;exact⟨b,off,x0,x1,x2,rfl,(Cq hb c0),(Cq hb c1),(Cq hb c2),A5.below hb (kid k) hx⟩
theorem Lq:∀ (e:ExT) (x:Value) (q:Nat) (w:Wd),q<=1000->A5 w e x ->
 Cl 50 #[x,Iv q] w fun y w'=>(∃ r:Nat,y=.returned (Iv r)/\1<=r/\r<=q+1/\(r<=q->r=e.size))/\Bw w w'
 | .nil,x,q,w,hq,h=>by unfold A5 at h;exact h.elim
 | .mk op v n kid,x,q,w,hq,h=>by
   unfold A5 at h;obtain⟨a,c,rfl,h2,h3,h4,h5⟩:=h;have H5:=Hd h5;have HSZ:Hq ((ExT.mk op v n kid).size=1+sumN n fun i=>(kid i).size):=Hd rfl;have IH:Hq (∀ (i:Nat) (x:Value) (z:Int) (q:Nat) (W:Wd),z=(q:Int)->q<=1000->A5 W (kid i) x->Cl 50 #[x,Iv z] W fun y w'=>(∃ r:Nat,y=.returned (Iv r)/\1<=r/\r<=q+1/\(r<=q->r=(kid i).size))/\Bw W w') :=
    Hd fun i x z q W hz h1 h2=>by subst hz;exact Lq (kid i) x q W h1 h2
   obtain⟨E,hE⟩:=Ex (ExT.mk op v n kid);rw[<- hE] at HSZ ⊢;obtain⟨w1,hw1⟩:=Ex (w.alloc (.cells #[Iv op,Iv v,.slice a n c] 79));have HW1:Hq (_=w1):=Hd hw1.symm;have HB1:Hq (Bw w w1):=by rw[hw1];exact Hd (Ah _ _)
   have g6:w1.heap[w.heap.size]?=some (.cells #[Iv op,Iv v,.slice a n c] 79 (0,0)):=by rw[hw1];exact Vv _ _
   have hs1:w1.heap.size=w.heap.size+1:=by rw[hw1];simp
   have d2:w1.cell? (Aw w.heap.size 2)=some (.slice a n c):=by rw[Vt _ _ 2 _ _ _ g6];rfl
   clear h5 hE hw1 g6 h2 h3
   go_enter func50,ntmps50
   go_upto_region 1 with fail;rw[HW1.o];go_wp2_with fail
   go_loopw [5,6] (fun s5 s6 wr=>∃ i r:Nat,i<=n/\1<=r/\i<r/\r<=q+1/\s5=Iv r/\s6=Iv i/\Bw w1 wr/\Hq (r<=q->r=1+sumN i fun i=>(kid i).size)) (fun _ s6 _=>n-(intOf s6).toNat)
   case atStart=>exact⟨0,1,by omega,by omega,by omega,by omega,rfl,rfl,VI _ _,Hd fun _=>rfl⟩
   case round =>
    obtain⟨i,r,hi,g8,gg,g7,rfl,rfl,g5,HR⟩:=hrel;have d2':=Cq g5 d2;have g0:=Hd g5;clear g5
    by_cases gc:i<n
    ·by_cases gf:r<=q
     ·obtain⟨b,off,x0,x1,x2,rfl,c0,c1,c2,hx⟩:=H5.o i gc;have g4:=HB1.o.trans (g0.o.mono HB1.o.size);have e0:=Cq g4 c0;have e1:=Cq g4 c1;have e2:=Cq g4 c2;have HX:=Hd (hx.below g4);clear c0 c1 c2 hx g4;have g9:(i:Int)<n:=by omega
      go_wp2_with fail;refine(IH.o i _ _ (q-r) _ (by omega) (by omega) HX.o).mono ?_;rintro y w3 ⟨⟨r2,rfl,g1,g2,g3⟩,ga⟩;have ge:=Hd (g0.o.trans (ga.mono g0.o.size));have gd:Hq (r+r2<=q->r+r2=1+sumN (i+1) fun i=>(kid i).size):=Hd fun hh=>by
       have e1:=HR.o (by omega);have e2:=g3 (by omega)
       show _=1+(sumN i (fun i=>(kid i).size)+(kid i).size)
       omega
      clear ga g3 e0 e1 e2;go_wp2_with fail;go_roundw
      case rel=>exact⟨i+1,r+r2,by omega,by omega,by omega,by omega,by go_num,by go_num,ge.o,gd⟩
      case measure=>simp[intOf];omega
     ·have g9:(i:Int)<n:=by omega
      have HF:Hq ((∃ r':Nat,Ending.returned (Iv (r:Nat))=.returned (Iv r')/\1<=r'/\r'<=q+1/\(r'<=q->r'=E.size))/\Bw w wr) :=
       Hd ⟨⟨r,rfl,g8,g7,fun hh=>by omega⟩,HB1.o.trans (g0.o.mono HB1.o.size)⟩
      go_wp2_with fail;go_ret;exact HF.o
    ·have he:i=n:=by omega
     have HF:Hq ((∃ r':Nat,Ending.returned (Iv (r:Nat))=.returned (Iv r')/\1<=r'/\r'<=q+1/\(r'<=q->r'=E.size))/\Bw w wr) :=
      Hd ⟨⟨r,rfl,g8,g7,fun hh=>by rw[HSZ.o,HR.o hh,he]⟩,HB1.o.trans (g0.o.mono HB1.o.size)⟩
     have g9:¬ (i:Int)<n:=by omega
     go_wp2_with fail;go_ret;exact HF.o
theorem DG {f:Nat->Nat}{i:Nat}:∀ {n:Nat},i<n->sumN i f+f i<=sumN n f
 | 0,h=>by omega
 | k+1,h=>by
   rcases VE i k with h'|h'
   ·have:=DG (f:=f) h'
    show _<=sumN k f+f k
    omega
   ·obtain rfl:i=k:=by omega
    exact Vu _
def Bg (op:Int):Int×Int :=
 if op=1\/op=2\/op=3 then (0,0) else if op=4 then (1,1) else if op=5\/op=6\/op=7 then (0,64) else if op=8\/op=9 then (2,2) else if op=10 then (3,3) else (-1,-1)
def okT:ExT->Nat->Prop
 | .nil,_=>False
 | .mk op v n kid,deep=>deep<=64/\0<=(Bg op).1/\(op=3->0<=v/\v<64)/\(op≠3->v=0)/\(Bg op).1<=n/\(n:Int)<=(Bg op).2/\∀ i,i<n->okT (kid i) (deep+1)
def FW:ExT->Prop
 | .nil=>False
 | .mk op v n kid=>0<=(Bg op).1/\(op=3->0<=v/\v<64)/\(op≠3->v=0)/\(Bg op).1<=n/\(n:Int)<=(Bg op).2/\∀ i,i<n->FW (kid i)
theorem okT.valid:∀ {e:ExT} {deep:Nat},okT e deep->FW e
 | .nil,_,h=>h.elim
 | .mk op v n kid,deep,h=>by
   obtain⟨_,h1,h2,h3,h4,h5,h6⟩:=h;exact⟨h1,h2,h3,h4,h5,fun i hi=>(h6 i hi).valid⟩
theorem QZ (op:Int)(w:Wd):Cl 157 #[Iv op] w (Sm (.tuple #[Iv (Bg op).1,Iv (Bg op).2]) w):=by
 obtain⟨p,hp⟩:=Ex (Bg op);rw[<- hp];unfold Bg at hp;rcases(by omega:op=1\/op=2\/op=3\/op=4\/op=5\/op=6\/op=7\/op=8\/op=9\/op=10\/(op<1\/10<op)) with rfl|rfl|rfl|rfl|rfl|rfl|rfl|rfl|rfl|rfl|h
 all_goals
  first
  | (simp at hp
     subst hp
     go_enter func157,ntmps157
     go_wp2_with fail
     go_ret2
     exact⟨rfl,rfl⟩)
  | (have h1 : (op == 1) = false := by simp; omega
     have h2:(op == 2)=false:=by simp;omega
     have h3:(op == 3)=false:=by simp;omega
     have h4:(op == 4)=false:=by simp;omega
     have h5:(op == 5)=false:=by simp;omega
     have h6:(op == 6)=false:=by simp;omega
     have h7:(op == 7)=false:=by simp;omega
     have h8:(op == 8)=false:=by simp;omega
     have h9:(op == 9)=false:=by simp;omega
     have g0:(op == 10)=false:=by simp;omega
     rw[Vs (by omega),Vs (by omega),Vs (by omega),Vs (by omega),Vs (by omega)] at hp;subst hp;clear h
     go_enter func157,ntmps157
     go_wp2_with fail
     go_ret2
     exact⟨rfl,rfl⟩)
def Ef (e:ExT)(deep parts:Nat)(w:Wd)(y:Ending)(w':Wd):Prop:=∃ err m:Int,y=.returned (.tuple #[Iv err,Iv m])/\okI m/\(err=0↔okT e deep)/\(err=0->m=(parts+e.size:Nat))/\Bw w w'
theorem Lr:∀ (e:ExT) (x:Value) (deep parts:Nat) (w:Wd),deep<=65->parts+e.size<=4096->A5 w e x ->
 Cl 106 #[x,Iv deep,Iv parts] w (Ef e deep parts w)
 | .nil,x,deep,parts,w,hd,hp,h=>by unfold A5 at h;exact h.elim
 | .mk op v n kid,x,deep,parts,w,hd,hp,h=>by
   unfold A5 at h;obtain⟨a,c,rfl,h2,h3,h4,h5⟩:=h;have H5:=Hd h5;have HSZ:Hq ((ExT.mk op v n kid).size=1+sumN n fun i=>(kid i).size):=Hd rfl;have HKS:Hq (∀ i,i<n->(kid i).size<(ExT.mk op v n kid).size):=Hd fun i hi=>ExT.kid_size hi
   have HV:Hq (∀ l hh:Int,l=(Bg op).1->hh=(Bg op).2->(okT (ExT.mk op v n kid) deep↔deep<=64/\0<=l/\(op=3->0<=v/\v<64)/\(op≠3->v=0)/\l<=n/\(n:Int)<=hh/\∀ i,i<n->okT (kid i) (deep+1))):=by
    refine Hd ?_;rintro l hh rfl rfl;exact Iff.rfl
   have IH:Hq (∀ (i:Nat) (x:Value) (z1 z2:Int) (deep parts:Nat) (W:Wd),z1=(deep:Int)->z2=(parts:Int)->deep<=65->parts+(kid i).size<=4096->A5 W (kid i) x->Cl 106 #[x,Iv z1,Iv z2] W (Ef (kid i) deep parts W)) :=
    Hd fun i x z1 z2 deep parts W e1 e2 h1 h2 h3=>by subst e1;subst e2;exact Lr (kid i) x deep parts W h1 h2 h3
   have HK:=Hd (fun W=>QZ op W);obtain⟨E,hE⟩:=Ex (ExT.mk op v n kid);have gC:1<=E.size:=E.size_pos;rw[<- hE] at HSZ hp HV HKS ⊢;obtain⟨l,hl⟩:=Ex ((Bg op).1);obtain⟨hi,gq⟩:=Ex ((Bg op).2);rw[<- hl,<- gq] at HK;have g4:=Hd (HV.o l hi hl gq);obtain⟨w1,gl⟩:=Ex (w.alloc (.cells #[Iv op,Iv v,.slice a n c] 79));have HW1:Hq (_=w1):=Hd gl.symm;have g8:Hq (Bw w w1):=by rw[gl];exact Hd (Ah _ _)
   have gj:w1.heap[w.heap.size]?=some (.cells #[Iv op,Iv v,.slice a n c] 79 (0,0)):=by rw[gl];exact Vv _ _
   have hs1:w1.heap.size=w.heap.size+1:=by rw[gl];simp
   have d0:w1.cell? (Av w.heap.size)=some (Iv op):=by rw[Vt _ _ 0 _ _ _ gj];rfl
   have d1:w1.cell? (Aw w.heap.size 1)=some (Iv v):=by rw[Vt _ _ 1 _ _ _ gj];rfl
   have d2:w1.cell? (Aw w.heap.size 2)=some (.slice a n c):=by rw[Vt _ _ 2 _ _ _ gj];rfl
   have g0:Hq (∀ (k m:Int) (W:Wd),k≠0->¬ okT E deep->okI m->Bw w1 W->Ef E deep parts w (.returned (.tuple #[Iv k,Iv m])) W) :=
    Hd fun k m W hk gw hm hb=>⟨k,m,rfl,hm,⟨fun e=>(hk e).elim,fun e=>(gw e).elim⟩,fun e=>(hk e).elim,g8.o.trans (hb.mono g8.o.size)⟩
   unfold okI at h2 h3;clear h5 hE gl gj HV hl gq
   go_enter func106,ntmps106
   go_upto_region 1 with fail;rw[HW1.o]
   by_cases gE:(deep:Int)>64
   ·go_wp2_with fail
    go_ret2
    exact g0.o 17 _ _ (by decide) (fun h=>by have:=(g4.o.1 h).1;omega) (by unfold okI;omega) (VI _ _)
   go_wp2_with fail;refine(HK.o _).mono ?_;rintro y w' ⟨rfl,rfl⟩
   by_cases gD:l<0
   ·go_wp2_with fail
    go_ret2
    exact g0.o 11 _ _ (by decide) (fun h=>by have:=(g4.o.1 h).2.1;omega) (by unfold okI;omega) (VI _ _)
   have gt:((op == 3)=true/\op=3)\/((op == 3)=false/\(op != 3)=true/\op≠3):=by
    by_cases e:op=3
    . exact .inl ⟨by simp[e],e⟩
    . exact .inr ⟨by simpa using e,by simpa using e,e⟩
   rcases gt with ⟨g1,g2⟩|⟨g1,g2,g3⟩
   ·subst g2
    by_cases gc:v<0
    ·go_wp2_with fail
     go_ret2
     exact g0.o 9 _ _ (by decide) (fun h=>by have:=(g4.o.1 h).2.2.1 (by trivial);omega) (by unfold okI;omega) (VI _ _)
    by_cases gu:v>=64
    ·go_wp2_with fail
     go_ret2
     exact g0.o 9 _ _ (by decide) (fun h=>by have:=(g4.o.1 h).2.2.1 (by trivial);omega) (by unfold okI;omega) (VI _ _)
    have HG:Hq ((3:Int)=3->0<=v/\v<64):=Hd fun _=>⟨by omega,by omega⟩
    have gr:Hq ((3:Int)≠3->v=0):=Hd fun e=>(e rfl).elim
    go_upto_region 9 with fail
    by_cases gx:(n:Int)<l
    ·go_wp2_with fail
     go_ret2
     exact g0.o 3 _ _ (by decide) (fun h=>by have:=(g4.o.1 h).2.2.2.2.1;omega) (by unfold okI;omega) (VI _ _)
    by_cases gy:(n:Int)>hi
    ·go_wp2_with fail
     go_ret2
     exact g0.o 3 _ _ (by decide) (fun h=>by have:=(g4.o.1 h).2.2.2.2.2.1;omega) (by unfold okI;omega) (VI _ _)
    go_wp2_with fail
    go_loopw [2,10,11,12] (fun s2 s10 s11 s12 wr=>∃ i p:Nat,i<=n/\p<=4096/\s2=Iv p/\s10=Iv i/\Bw w1 wr/\Hq (p=parts+(1+sumN i fun i=>(kid i).size))/\Hq (∀ j,j<i->okT (kid j) (deep+1))) (fun _ s10 _ _ _=>n-(intOf s10).toNat)
    case atStart=>exact⟨0,parts+1,by omega,by omega,by go_num,rfl,VI _ _,Hd rfl,Hd fun j hj=>by omega⟩
    case round =>
     obtain⟨i,p,gA,gv,rfl,rfl,g9,HP,gh⟩:=hrel;have d2':=Cq g9 d2;have g5:=Hd g9;clear g9
     by_cases ge:i<n
     ·obtain⟨b,off,x0,x1,x2,rfl,c0,c1,c2,hx⟩:=H5.o i ge;have g7:=g8.o.trans (g5.o.mono g8.o.size);have e0:=Cq g7 c0;have e1:=Cq g7 c1;have e2:=Cq g7 c2;have HX:=Hd (hx.below g7);have gd:p+(kid i).size<=4096:=by
       have s1:(kid i).size+sumN i (fun i=>(kid i).size)<=sumN n fun i=>(kid i).size:=by
        have:=DG (f:=fun i=>(kid i).size) ge;omega
       have s2:=HP.o;have s3:=HSZ.o;omega
      have gi:Hq (p+(kid i).size=parts+(1+sumN (i+1) fun i=>(kid i).size)):=Hd (by
       have s2:=HP.o
       show _=parts+(1+(sumN i (fun i=>(kid i).size)+(kid i).size))
       omega)
      have gp:(i:Int)<n:=by omega
      clear c0 c1 c2 hx g7;go_wp2_with fail;refine(IH.o i _ _ _ (deep+1) p _ (by go_num) rfl (by omega) gd HX.o).mono ?_;rintro y w3 ⟨err,m,rfl,hm,gf,gm,gn⟩;have go:=Hd (g5.o.trans (gn.mono g5.o.size));have gg:=Hd gm;have ga:=Hd gf;clear gn gm gf e0 e1 e2;unfold okI at hm
      by_cases g6:err=0
      ·subst g6;have q1:=ga.o.1 rfl;have q2:=gg.o rfl;obtain⟨p2,hp2⟩:=Ex (p+(kid i).size);have gk:Hq (∀ j,j<i+1->okT (kid j) (deep+1)):=Hd fun j hj=>by
        rcases VE j i with h|h
        . exact gh.o j h
        ·obtain rfl:j=i:=by omega
         exact q1
       rw[<- hp2] at q2 gd gi;subst q2;clear hp2 q1 gg ga;go_wp2_with fail;go_roundw
       case rel=>exact⟨i+1,p2,by omega,by omega,rfl,by go_num,go.o,gi,gk⟩
       case measure=>simp[intOf];omega
      ·have gz:(err != 0)=true:=by simpa using g6
       have HF:=Hd (g0.o err m w3 g6 (fun h=>g6 (ga.o.2 ((g4.o.1 h).2.2.2.2.2.2 i ge))) hm go.o);clear g6 gg ga;go_wp2_with fail
       go_ret2
       exact HF.o
     ·have he:i=n:=by omega
      have gp:¬ (i:Int)<n:=by omega
      have HF:Hq (Ef E deep parts w (.returned (.tuple #[Iv 0,Iv (p:Nat)])) wr):=Hd ⟨0,p,rfl,by unfold okI;omega,⟨fun _=>g4.o.2 ⟨by omega,by omega,HG.o,gr.o,by omega,by omega,fun j hj=>gh.o j (by omega)⟩,fun _=>rfl⟩,fun _=>by rw[HP.o,HSZ.o,he],g8.o.trans (g5.o.mono g8.o.size)⟩;go_wp2_with fail
      go_ret2
      exact HF.o
   ·by_cases gc:v=0
    ·have gu:(v != 0)=false:=by simp[gc]
     have HG:Hq (op=3->0<=v/\v<64):=Hd fun e=>(g3 e).elim
     have gr:Hq (op≠3->v=0):=Hd fun _=>gc
     clear gc g3;go_upto_region 9 with fail
     by_cases gx:(n:Int)<l
     ·go_wp2_with fail
      go_ret2
      exact g0.o 3 _ _ (by decide) (fun h=>by have:=(g4.o.1 h).2.2.2.2.1;omega) (by unfold okI;omega) (VI _ _)
     by_cases gy:(n:Int)>hi
     ·go_wp2_with fail
      go_ret2
      exact g0.o 3 _ _ (by decide) (fun h=>by have:=(g4.o.1 h).2.2.2.2.2.1;omega) (by unfold okI;omega) (VI _ _)
     go_wp2_with fail
     go_loopw [2,10,11,12] (fun s2 s10 s11 s12 wr=>∃ i p:Nat,i<=n/\p<=4096/\s2=Iv p/\s10=Iv i/\Bw w1 wr/\Hq (p=parts+(1+sumN i fun i=>(kid i).size))/\Hq (∀ j,j<i->okT (kid j) (deep+1))) (fun _ s10 _ _ _=>n-(intOf s10).toNat)
     case atStart=>exact⟨0,parts+1,by omega,by omega,by go_num,rfl,VI _ _,Hd rfl,Hd fun j hj=>by omega⟩
     case round =>
      obtain⟨i,p,gA,gv,rfl,rfl,g9,HP,gh⟩:=hrel;have d2':=Cq g9 d2;have g5:=Hd g9;clear g9
      by_cases ge:i<n
      ·obtain⟨b,off,x0,x1,x2,rfl,c0,c1,c2,hx⟩:=H5.o i ge;have g7:=g8.o.trans (g5.o.mono g8.o.size);have e0:=Cq g7 c0;have e1:=Cq g7 c1;have e2:=Cq g7 c2;have HX:=Hd (hx.below g7);have gd:p+(kid i).size<=4096:=by
        have s1:(kid i).size+sumN i (fun i=>(kid i).size)<=sumN n fun i=>(kid i).size:=by
         have:=DG (f:=fun i=>(kid i).size) ge;omega
        have s2:=HP.o;have s3:=HSZ.o;omega
       have gi:Hq (p+(kid i).size=parts+(1+sumN (i+1) fun i=>(kid i).size)):=Hd (by
        have s2:=HP.o
        show _=parts+(1+(sumN i (fun i=>(kid i).size)+(kid i).size))
        omega)
       have gp:(i:Int)<n:=by omega
       clear c0 c1 c2 hx g7;go_wp2_with fail;refine(IH.o i _ _ _ (deep+1) p _ (by go_num) rfl (by omega) gd HX.o).mono ?_;rintro y w3 ⟨err,m,rfl,hm,gf,gm,gn⟩;have go:=Hd (g5.o.trans (gn.mono g5.o.size));have gg:=Hd gm;have ga:=Hd gf;clear gn gm gf e0 e1 e2;unfold okI at hm
       by_cases g6:err=0
       ·subst g6;have q1:=ga.o.1 rfl;have q2:=gg.o rfl;obtain⟨p2,hp2⟩:=Ex (p+(kid i).size);have gk:Hq (∀ j,j<i+1->okT (kid j) (deep+1)):=Hd fun j hj=>by
         rcases VE j i with h|h
         . exact gh.o j h
         ·obtain rfl:j=i:=by omega
          exact q1
        rw[<- hp2] at q2 gd gi;subst q2;clear hp2 q1 gg ga;go_wp2_with fail;go_roundw
        case rel=>exact⟨i+1,p2,by omega,by omega,rfl,by go_num,go.o,gi,gk⟩
        case measure=>simp[intOf];omega
       ·have gz:(err != 0)=true:=by simpa using g6
        have HF:=Hd (g0.o err m w3 g6 (fun h=>g6 (ga.o.2 ((g4.o.1 h).2.2.2.2.2.2 i ge))) hm go.o);clear g6 gg ga;go_wp2_with fail
        go_ret2
        exact HF.o
      ·have he:i=n:=by omega
       have gp:¬ (i:Int)<n:=by omega
       have HF:Hq (Ef E deep parts w (.returned (.tuple #[Iv 0,Iv (p:Nat)])) wr):=Hd ⟨0,p,rfl,by unfold okI;omega,⟨fun _=>g4.o.2 ⟨by omega,by omega,HG.o,gr.o,by omega,by omega,fun j hj=>gh.o j (by omega)⟩,fun _=>rfl⟩,fun _=>by rw[HP.o,HSZ.o,he],g8.o.trans (g5.o.mono g8.o.size)⟩;go_wp2_with fail
       go_ret2
       exact HF.o
    ·have gu:(v != 0)=true:=by simpa using gc
     have gB:Hq (¬ okT E deep):=Hd fun h=>gc ((g4.o.1 h).2.2.2.1 g3)
     clear gc g3;go_wp2_with fail
     go_ret2
     exact g0.o 9 _ _ (by decide) gB.o (by unfold okI;omega) (VI _ _)
theorem I1 (e:ExT)(x:Value)(w:Wd)(hs:e.size<=4096)(h:A5 w e x) :
 Cl 51 #[x] w fun y w'=>∃ err:Int,y=.returned (Iv err)/\(err=0↔okT e 1)/\Bw w w':=by
 have HC:Hq (∀ W,Bw w W->∀ u,u=x->Cl 106 #[u,Iv 1,Iv 0] W (Ef e 1 0 W)):=Hd fun W hb u hu=>by subst hu;exact Lr e _ 1 0 W (by omega) (by omega) (h.below hb)
 obtain⟨x0,x1,x2,hx⟩:∃ x0 x1 x2,x=.agg #[x0,x1,x2]:=by
  cases e with
  | nil=>unfold A5 at h;exact h.elim
  | mk op v n kid =>
    unfold A5 at h;obtain⟨a,c,rfl,_⟩:=h;exact⟨_,_,_,rfl⟩
 subst hx;obtain⟨w1,g1⟩:=Ex (w.alloc (.cells #[x0,x1,x2] 79));have HW1:Hq (_=w1):=Hd g1.symm;have g2:Hq (Bw w w1):=by rw[g1];exact Hd (Ah _ _)
 have g0:w1.heap[w.heap.size]?=some (.cells #[x0,x1,x2] 79 (0,0)):=by rw[g1];exact Vv _ _
 have d0:w1.cell? (Av w.heap.size)=some x0:=by rw[Vt _ _ 0 _ _ _ g0];rfl
 have d1:w1.cell? (Aw w.heap.size 1)=some x1:=by rw[Vt _ _ 1 _ _ _ g0];rfl
 have d2:w1.cell? (Aw w.heap.size 2)=some x2:=by rw[Vt _ _ 2 _ _ _ g0];rfl
 have g3:x0.cells=#[x0]/\x1.cells=#[x1]/\x2.cells=#[x2]:=by
  cases e with
  | nil=>unfold A5 at h;exact h.elim
  | mk op v n kid =>
    unfold A5 at h;obtain⟨a,c,h1,_⟩:=h;cases h1;exact⟨rfl,rfl,rfl⟩
 obtain⟨o0,o1,o2⟩:=g3;clear h g1 g0
 go_enter func51,ntmps51
 go_upto_region 1 with fail;rw[HW1.o];go_wp2_with fail;refine(HC.o _ g2.o _ rfl).mono ?_;rintro y w2 ⟨err,m,rfl,hm,hv,_,hb⟩;have HF:Hq (∃ err':Int,Ending.returned (Iv err)=.returned (Iv err')/\(err'=0↔okT e 1)/\Bw w w2):=Hd ⟨err,rfl,hv,g2.o.trans (hb.mono g2.o.size)⟩;clear hv hb;go_wp2_with fail;go_ret;exact HF.o
def BT:Nat->(Nat->List Int)->List Int
 | 0,_=>[]
 | k+1,f=>BT k f++f k
def AM:ExT->List Int
 | .nil=>[]
 | .mk op v n kid=>(if op=3 then [v] else [])++BT n fun i=>AM (kid i)
theorem FX {f:Nat->List Int}{g:Nat->Nat}:∀ (n:Nat),(∀ i,i<n->(f i).length<=g i)->(BT n f).length<=sumN n g
 | 0,_=>Vu _
 | k+1,h=>by
   show (BT k f++f k).length<=sumN k g+g k
   rw[Vx];have:=FX (f:=f) (g:=g) k (fun i hi=>h i (by omega));have:=h k (by omega);omega
theorem Eg:∀ e:ExT,(AM e).length<=e.size
 | .nil=>by simp[AM]
 | .mk op v n kid=>by
   show ((if op=3 then [v] else [])++BT n fun i=>AM (kid i)).length<=1+sumN n fun i=>(kid i).size
   rw[Vx];have h1:=FX (f:=fun i=>AM (kid i)) (g:=fun i=>(kid i).size) n (fun i _=>Eg (kid i));have h2:(if op=3 then [v] else []:List Int).length<=1:=by split<;>simp
   omega
theorem OwnI.lower (h:OwnI w base v zs)(hb:b<=base):OwnI w b v zs:=by
 refine⟨h.1,?_⟩;rcases h.2 with hn|⟨g,cap,cur,rfl,g0,rest⟩
 . exact .inl hn
 . exact .inr ⟨g,cap,cur,rfl,by omega,rest⟩
theorem Ls:∀ (e:ExT) (x:Value) (w:Wd),e.size<=4096->A5 w e x ->
 Cl 107 #[x] w fun y w'=>∃ u,y=.returned u/\OwnI w' w.heap.size u (AM e)/\Bw w w'
 | .nil,x,w,hp,h=>by unfold A5 at h;exact h.elim
 | .mk op v n kid,x,w,hp,h=>by
   unfold A5 at h;obtain⟨a,c,rfl,h2,h3,h4,h5⟩:=h;have H5:=Hd h5;have HSZ:Hq ((ExT.mk op v n kid).size=1+sumN n fun i=>(kid i).size):=Hd rfl;have HKS:Hq (∀ i,i<n->(kid i).size<(ExT.mk op v n kid).size):=Hd fun i hi=>ExT.kid_size hi
   have HVT:Hq (AM (ExT.mk op v n kid)=(if op=3 then [v] else [])++BT n fun i=>AM (kid i)):=Hd rfl;have IH:Hq (∀ (i:Nat) (x:Value) (W:Wd),(kid i).size<=4096->A5 W (kid i) x->Cl 107 #[x] W fun y w'=>∃ u,y=.returned u/\OwnI w' W.heap.size u (AM (kid i))/\Bw W w') :=
    Hd fun i x W h1 h2=>Ls (kid i) x W h1 h2
   obtain⟨E,hE⟩:=Ex (ExT.mk op v n kid);rw[<- hE] at HSZ hp HVT HKS ⊢;obtain⟨w1,hw1⟩:=Ex (w.alloc (.cells #[Iv op,Iv v,.slice a n c] 79));have HW1:Hq (_=w1):=Hd hw1.symm;have HB1:Hq (Bw w w1):=by rw[hw1];exact Hd (Ah _ _)
   have g9:w1.heap[w.heap.size]?=some (.cells #[Iv op,Iv v,.slice a n c] 79 (0,0)):=by rw[hw1];exact Vv _ _
   have hs1:w1.heap.size=w.heap.size+1:=by rw[hw1];simp
   have d0:w1.cell? (Av w.heap.size)=some (Iv op):=by rw[Vt _ _ 0 _ _ _ g9];rfl
   have d1:w1.cell? (Aw w.heap.size 1)=some (Iv v):=by rw[Vt _ _ 1 _ _ _ g9];rfl
   have d2:w1.cell? (Aw w.heap.size 2)=some (.slice a n c):=by rw[Vt _ _ 2 _ _ _ g9];rfl
   unfold okI at h2 h3;obtain⟨w2,ge⟩:=Ex (w1.alloc (.cells #[] 3));have gr:Hq (_=w2):=Hd ge.symm;have HB2:Hq (Bw w1 w2):=by rw[ge];exact Hd (Ah _ _)
   have gj:Hq (OwnI w2 w1.heap.size (.slice (some (Av (w.heap.size+1))) 0 0) []):=by rw[ge,<- hs1];exact Hd (Ew _ _ (Vu _))
   clear h5 hE hw1 ge g9
   go_enter func107,ntmps107
   go_upto_region 1 with fail;rw[HW1.o];go_upto_region 2 with fail;obtain⟨Z,hZ⟩:=Ex (if op=3 then [v] else []:List Int)
   have HZ:=Hd hZ;have gm:Hq (Z.length<=1):=Hd (by rw[hZ];split<;>simp);rw[gr.o];have gl:w1.heap.size<=w2.heap.size:=HB2.o.size;have d0':=Cq HB2.o d0;have d1':=Cq HB2.o d1
   by_cases h3:op=3
   ·rw[Vw h3] at hZ;subst h3;clear h2;go_wp2_with (at_builtin;refine CO _ rfl _ _ rfl w1.heap.size w1 _ [] _ rfl rfl rfl rfl (by exact gj.o) (by simp) gl HB2.o ?_;intro v3 w3 gk g7 go _)
    go_loopw [3,4] (fun s3 s4 wr=>∃ i:Nat,i<=n/\s4=Iv i/\Bw w1 wr/\OwnI wr w1.heap.size s3 (Z++BT i fun i=>AM (kid i))/\w1.heap.size<=wr.heap.size) (fun _ s4 _=>n-(intOf s4).toNat)
    case atStart=>exact⟨0,VC _,rfl,g7,by rw[hZ];simpa [BT] using gk,go⟩
    case round =>
     obtain⟨i,gq,rfl,g2,g5,gn⟩:=hrel;have d2':=Cq g2 d2;have g0:=Hd g2;have gc:=Hd g5;clear g2 g5
     by_cases g6:i<n
     ·obtain⟨b,off,x0,x1,x2,rfl,c0,c1,c2,hx⟩:=H5.o i g6;have g1:=HB1.o.trans (g0.o.mono HB1.o.size);have e0:=Cq g1 c0;have e1:=Cq g1 c1;have e2:=Cq g1 c2;have HX:=Hd (hx.below g1);have gh:(i:Int)<n:=by omega
      have gp:=HKS.o i g6
      have gd:Hq ((Z++BT i fun i=>AM (kid i)).length+(AM (kid i)).length<=4096):=Hd (by
       have s1:=DG (f:=fun i=>(kid i).size) g6;have s2:=HSZ.o;have s3:=FX (f:=fun i=>AM (kid i)) (g:=fun i=>(kid i).size) i (fun i _=>Eg (kid i));have s4:=Eg (kid i);have s5:=gm.o;rw[Vx];omega)
      clear c0 c1 c2 hx g1;go_upto_region 7 with fail
      go_wp2_with (first
       | (go_at_call 107;refine(IH.o i _ _ (by omega) HX.o).mono ?_;rintro y w3 ⟨u,rfl,hu,g7⟩;obtain⟨au,cu,rfl,ga,gf⟩:=hu.sliceIs (by have:=gd.o;omega);have HU:=Hd ga;have g8:=Hd g7;clear hu ga g7)
       | (at_builtin;refine De rfl _ _ rfl w1.heap.size w1 _ (Z++BT i fun i=>AM (kid i)) (AM (kid i)) au cu rfl rfl (by exact gc.o.below g8.o) (by exact HU.o) (by have:=gd.o;omega) (by have:=g8.o.size;omega) (by exact g0.o.trans (g8.o.mono g0.o.size)) gf ?_;intro v4 w4 g4 gi gg _))
      go_roundw
      case rel=>exact⟨i+1,by omega,by go_num,gi,by rw[VH] at g4;exact g4,gg⟩
      case measure=>simp[intOf];omega
     ·have he:i=n:=by omega
      have gh:¬ (i:Int)<n:=by omega
      have HF:Hq (∃ u,Ending.returned u3=.returned u/\OwnI wr w.heap.size u (AM E)/\Bw w wr):=Hd ⟨u3,rfl,by rw[HVT.o,<- HZ.o,<- he];exact gc.o.lower (by omega),HB1.o.trans (g0.o.mono HB1.o.size)⟩;go_wp2_with fail;go_ret;exact HF.o
   ·rw[Vs h3] at hZ;have g3:(op == 3)=false:=by simpa using h3
    clear h3;go_wp2_with fail
    go_loopw [3,4] (fun s3 s4 wr=>∃ i:Nat,i<=n/\s4=Iv i/\Bw w1 wr/\OwnI wr w1.heap.size s3 (Z++BT i fun i=>AM (kid i))/\w1.heap.size<=wr.heap.size) (fun _ s4 _=>n-(intOf s4).toNat)
    case atStart=>exact⟨0,VC _,rfl,HB2.o,by rw[hZ];simpa [BT] using gj.o,gl⟩
    case round =>
     obtain⟨i,gq,rfl,g2,g5,gn⟩:=hrel;have d2':=Cq g2 d2;have g0:=Hd g2;have gc:=Hd g5;clear g2 g5
     by_cases g6:i<n
     ·obtain⟨b,off,x0,x1,x2,rfl,c0,c1,c2,hx⟩:=H5.o i g6;have g1:=HB1.o.trans (g0.o.mono HB1.o.size);have e0:=Cq g1 c0;have e1:=Cq g1 c1;have e2:=Cq g1 c2;have HX:=Hd (hx.below g1);have gh:(i:Int)<n:=by omega
      have gp:=HKS.o i g6
      have gd:Hq ((Z++BT i fun i=>AM (kid i)).length+(AM (kid i)).length<=4096):=Hd (by
       have s1:=DG (f:=fun i=>(kid i).size) g6;have s2:=HSZ.o;have s3:=FX (f:=fun i=>AM (kid i)) (g:=fun i=>(kid i).size) i (fun i _=>Eg (kid i));have s4:=Eg (kid i);have s5:=gm.o;rw[Vx];omega)
      clear c0 c1 c2 hx g1;go_upto_region 7 with fail
      go_wp2_with (first
       | (go_at_call 107;refine(IH.o i _ _ (by omega) HX.o).mono ?_;rintro y w3 ⟨u,rfl,hu,g7⟩;obtain⟨au,cu,rfl,ga,gf⟩:=hu.sliceIs (by have:=gd.o;omega);have HU:=Hd ga;have g8:=Hd g7;clear hu ga g7)
       | (at_builtin;refine De rfl _ _ rfl w1.heap.size w1 _ (Z++BT i fun i=>AM (kid i)) (AM (kid i)) au cu rfl rfl (by exact gc.o.below g8.o) (by exact HU.o) (by have:=gd.o;omega) (by have:=g8.o.size;omega) (by exact g0.o.trans (g8.o.mono g0.o.size)) gf ?_;intro v4 w4 g4 gi gg _))
      go_roundw
      case rel=>exact⟨i+1,by omega,by go_num,gi,by rw[VH] at g4;exact g4,gg⟩
      case measure=>simp[intOf];omega
     ·have he:i=n:=by omega
      have gh:¬ (i:Int)<n:=by omega
      have HF:Hq (∃ u,Ending.returned u3=.returned u/\OwnI wr w.heap.size u (AM E)/\Bw w wr):=Hd ⟨u3,rfl,by rw[HVT.o,<- HZ.o,<- he];exact gc.o.lower (by omega),HB1.o.trans (g0.o.mono HB1.o.size)⟩;go_wp2_with fail;go_ret;exact HF.o
theorem Ra (a:Option Addr)(c:Nat)(zs:List Int)(v:Int)(w:Wd)(hl:zs.length<=1000000)(h:Ar w a zs) :
 Cl 108 #[.slice a zs.length c,Iv v] w (Sm (.bool (decide (v∈zs))) w):=by
 have HI:=Hd h;clear h;have g4:Hq ((∀ j,j<zs.length->at0 zs j≠v)->decide (v∈zs)=false):=Hd fun hh=>WJ fun hm=>by
  obtain⟨j,hj,e⟩:=WW hm;exact hh j hj (by rw[As hj];exact e)
 have g2:Hq (∀ j,j<zs.length->at0 zs j=v->decide (v∈zs)=true):=Hd fun j hj e=>WV (by rw[As hj] at e;rw[<- e];exact VG hj)
 go_enter func108,ntmps108
 go_wp2_with fail
 go_loopw [5] (fun s5 wr=>∃ i:Nat,i<=zs.length/\s5=Iv i/\w=wr/\Hq (∀ j,j<i->at0 zs j≠v)) (fun s5 _=>zs.length-(intOf s5).toNat)
 case atStart=>exact⟨0,VC _,rfl,rfl,Hd fun j hj=>by omega⟩
 case round =>
  obtain⟨i,hi,rfl,rfl,HN⟩:=hrel
  by_cases g1:i<zs.length
  ·obtain⟨b,off,rfl,hc⟩:=HI.o.cells i g1;have g3:(i:Int)<zs.length:=by omega
   obtain⟨z,hz⟩:=Ex (at0 zs i);rw[<- hz] at hc
   by_cases he:z=v
   . have HY:=Hd (g2.o i g1 (by rw[<- hz,he]));subst he;clear hz;go_wp2_with fail;go_ret;exact⟨by rw[HY.o];rfl,rfl⟩
   ·have g5:(z == v)=false:=by simpa using he
    have g0:Hq (∀ j,j<i+1->at0 zs j≠v):=Hd fun j hj=>by
     rcases VE j i with h|h
     . exact HN.o j h
     ·obtain rfl:j=i:=by omega
      rw[<- hz];exact he
    clear hz he;go_wp2_with fail;go_roundw
    case rel=>exact⟨i+1,by omega,by go_num,by simp,g0⟩
    case measure=>simp[intOf];omega
  ·have g0:=Hd (g4.o fun j hj=>HN.o j (by omega));have g3:¬ (i:Int)<zs.length:=by omega
   go_wp2_with fail;go_ret;exact⟨by rw[g0.o];rfl,rfl⟩
structure PutS (zs:List Int)(v:Int)(i:Nat)(d:Bool)(os:List Int):Prop where
 mem:∀ x,x∈os↔x∈zs.take i\/(d=true/\x=v)
 len:os.length=i+if d then 1 else 0
 srt:os.Pairwise (· < ·)
 low:d=false->∀ x∈os,x<v
 up:d=true->∀ x∈os,∀ y∈zs.drop i,x<y
theorem Lt {os:List Int}{z:Int}(h:os.Pairwise (· < ·))(hz:∀ x∈os,x<z):(os++[z]).Pairwise (· < ·) :=
 List.pairwise_append.2 ⟨h,List.pairwise_singleton ..,fun x hx y hy=>by rw[VB.1 hy];exact hz x hx⟩
abbrev Yb:=@List.pairwise_cons
abbrev Xo:=@List.take_append_drop
theorem Lu (hs:zs.Pairwise (· < ·))(hi:i<zs.length):(∀ y∈zs.drop i,at0 zs i<=y)/\(∀ y∈zs.drop (i+1),at0 zs i<y)/\(∀ x∈zs.take i,x<at0 zs i):=by
 have e:zs.drop i=at0 zs i::zs.drop (i+1):=by rw[As hi];exact(VT hi)
 have hd:(zs.drop i).Pairwise (· < ·):=hs.sublist (List.drop_sublist ..);rw[e,Yb] at hd;have h2:=hs;rw[<- Xo i zs,List.pairwise_append] at h2;refine⟨fun y hy=>?_,hd.1,fun x hx=>h2.2.2 x hx _ (by rw[e];exact VM ..)⟩;rw[e] at hy;rcases Wj.1 hy with h|h
 . omega
 . have:=hd.1 y h;omega
theorem PutS.here {v:Int}{os:List Int}(h:PutS zs v i false os)(hu:∀ y∈zs.drop i,v<y):PutS zs v i true (os++[v]):=by
 refine⟨fun x=>?_,by simp[h.len],Lt h.srt (h.low rfl),by simp,fun _ x hx y hy=>?_⟩
 . have:=h.mem x;simp only[X7,false_and,or_false] at this;simp[this]
 ·rcases VF.1 hx with h1|h1
  . have:=h.low rfl x h1;have:=hu y hy;omega
  . rw[VB.1 h1];exact hu y hy
theorem PutS.next {v:Int}{d:Bool}{os:List Int}(h:PutS zs v i d os)(hs:zs.Pairwise (· < ·))(hi:i<zs.length)(hd:d=false->at0 zs i<v):PutS zs v (i+1) d (os++[at0 zs i]):=by
 obtain⟨q1,q2,q3⟩:=Lu hs hi;have g0:∀ x∈os,x<at0 zs i:=fun x hx=>by
  cases d with
  | true=>exact h.up rfl x hx _ (by rw[VT hi,As hi];exact VM ..)
  | false =>
    rcases(h.mem x).1 hx with h1|⟨h1,_⟩
    . exact q3 x h1
    . cases h1
 refine⟨fun x=>?_,by have:=h.len;simp[this];omega,Lt h.srt g0,fun e x hx=>?_,fun e x hx y hy=>?_⟩
 ·rw[Vz hi,VF,VF,h.mem x,As hi];simp only[VB];constructor
  ·rintro((h1|h1)|h1)
   . exact .inl (.inl h1)
   . exact .inr h1
   . exact .inl (.inr h1)
  ·rintro((h1|h1)|h1)
   . exact .inl (.inl h1)
   . exact .inr h1
   . exact .inl (.inr h1)
 ·rcases VF.1 hx with h1|h1
  . exact h.low e x h1
  . rw[VB.1 h1];exact hd e
 ·have g1:=q2 y hy;rcases VF.1 hx with h1|h1
  . have:=g0 x h1;omega
  . rw[VB.1 h1];exact g1
theorem Rb (a:Option Addr)(c:Nat)(zs:List Int)(v:Int)(w:Wd)(hl:zs.length<=1000000)(h:Ar w a zs)(hsr:zs.Pairwise (· < ·))(hnm:v∉zs) :
 Cl 109 #[.slice a zs.length c,Iv v] w fun y w'=>∃ u os,y=.returned u/\OwnI w' w.heap.size u os/\((∀ x,x∈os↔x∈zs\/x=v)/\os.Pairwise (· < ·))/\os.length=zs.length+1/\Bw w w':=by
 have HI:=Hd h;have g9:=Hd hsr;have gi:Hq (∀ i,i<zs.length->at0 zs i≠v):=Hd fun i hi e=>hnm (by rw[<- e,As hi];exact VG hi)
 clear h hsr hnm;have ga:Hq (∀ os,PutS zs v zs.length true os->((∀ x,x∈os↔x∈zs\/x=v)/\os.Pairwise (· < ·))/\os.length=zs.length+1):=Hd fun os h=>⟨⟨fun x=>by have:=h.mem x;rw[Wb] at this;simpa using this,h.srt⟩,by simpa using h.len⟩
 go_enter func109,ntmps109
 go_wp2_with fail
 go_loopw [5,6,7] (fun s5 s6 s7 wr=>∃ (i:Nat) (d:Bool) (os:List Int),i<=zs.length/\s6=.bool d/\s7=Iv i/\OwnI wr w.heap.size s5 os/\w.heap.size<=wr.heap.size/\Bw w wr/\Hq (PutS zs v i d os)) (fun _ _ s7 _=>zs.length-(intOf s7).toNat)
 case atStart=>exact⟨0,false,[],VC _,rfl,rfl,Ew w _ (Vu _),by simp,Ah w _,Hd ⟨fun x=>by simp,by simp,List.Pairwise.nil,by simp,by simp⟩⟩
 case round =>
  obtain⟨i,d,os,hi,rfl,rfl,g7,g8,g5,HP⟩:=hrel;have gk:os.length<=i+1:=by rw[HP.o.len];split<;>omega
  by_cases g4:i<zs.length
  ·obtain⟨b,off,rfl,hc⟩:=(HI.o.below g5).cells i g4;have g6:=Hd g7;have g3:=Hd g5;have gg:(i:Int)<zs.length:=by omega
   obtain⟨z,hz⟩:=Ex (at0 zs i);rw[<- hz] at hc;have HZ:=Hd hz;clear g7 g5 hz;cases d with
   | true =>
     go_wp2_with (at_builtin;refine CO _ rfl _ _ rfl w.heap.size w _ os _ rfl rfl rfl rfl (by exact g6.o) (by omega) g8 g3.o ?_;intro v1 w1 g1 g0 g2 _);go_roundw
     case rel=>exact⟨i+1,true,_,by omega,rfl,by go_num,g1,g2,g0,Hd (by rw[HZ.o];exact HP.o.next g9.o g4 (by simp))⟩
     case measure=>simp[intOf];omega
   | false =>
     by_cases gl:z>v
     ·have cne:∀ W:Wd,Bw wr W->W.cell? (Aw b (off+i))=some (Iv z):=fun W hb=>(Cq hb hc)
      have gf:b<w.heap.size:=by
       obtain⟨b',o',e,c'⟩:=HI.o.cells i g4;cases e;exact Af c'
      go_upto_region 8 with (at_builtin;refine CO _ rfl _ _ rfl w.heap.size w _ os _ rfl rfl rfl rfl (by exact g6.o) (by omega) g8 g3.o ?_;intro v1 w1 g1 g0 g2 _)
      have gm:w1.cell? (Aw b (off+i))=some (Iv z):=by
       obtain⟨b',o',e,c'⟩:=HI.o.cells i g4;cases e;rw[(g0.cell (p:=(Aw b (off+i))) gf),HZ.o];exact c'
      have gh:=Hd g1;have gj:=Hd g0;clear g1 g0 hc cne;go_wp2_with (at_builtin;refine CO _ rfl _ _ rfl w.heap.size w _ (os++[v]) _ rfl rfl rfl rfl (by exact gh.o) (by simp;omega) g2 gj.o ?_;intro v2 w2 gc gd ge _);go_roundw
      case rel=>exact⟨i+1,true,_,by omega,rfl,by go_num,gc,ge,gd,Hd (by rw[HZ.o];exact(HP.o.here fun y hy=>by have:=(Lu g9.o g4).1 y hy;have:=HZ.o;omega).next g9.o g4 (by simp))⟩
      case measure=>simp[intOf];omega
     ·go_wp2_with (at_builtin;refine CO _ rfl _ _ rfl w.heap.size w _ os _ rfl rfl rfl rfl (by exact g6.o) (by omega) g8 g3.o ?_;intro v1 w1 g1 g0 g2 _);go_roundw
      case rel=>exact⟨i+1,false,_,by omega,rfl,by go_num,g1,g2,g0,Hd (by rw[HZ.o];exact HP.o.next g9.o g4 fun _=>by have:=gi.o i g4;have:=HZ.o;omega)⟩
      case measure=>simp[intOf];omega
  ·have he:i=zs.length:=by omega
   have gg:¬ (i:Int)<zs.length:=by omega
   have g6:=Hd g7;have g3:=Hd g5;have HE:=Hd he;clear g7 g5 he;cases d with
   | true =>
     have HF:=ga.o os (by rw[<- HE.o];exact HP.o);go_wp2_with fail;go_ret;exact⟨_,rfl,os,g6.o,HF.1,HF.2,g3.o⟩
   | false =>
     have HF:=Hd (ga.o (os++[v]) (by rw[<- HE.o];exact HP.o.here (by rw[HE.o];simp)));go_wp2_with (at_builtin;refine CO _ rfl _ _ rfl w.heap.size w _ os _ rfl rfl rfl rfl (by exact g6.o) (by omega) g8 g3.o ?_;intro v1 w1 g1 g0 g2 _);go_ret;exact⟨_,rfl,_,g1,HF.o.1,HF.o.2,g0⟩
theorem Lv (hi:i<zs.length)(x:Int):x∈zs.take (i+1)↔x∈zs.take i\/x=at0 zs i:=by
 rw[Vz hi,VF,As hi,VB]
theorem Rc (a:Option Addr)(c:Nat)(zs:List Int)(w:Wd)(hl:zs.length<=900000)(h:Ar w a zs) :
 Cl 53 #[.slice a zs.length c] w fun y w'=>∃ u os,y=.returned u/\OwnI w' w.heap.size u os/\((∀ x,x∈os↔x∈zs)/\os.Pairwise (· < ·))/\os.length<=zs.length/\Bw w w':=by
 have HI:=Hd h;clear h
 go_enter func53,ntmps53
 go_wp2_with fail
 go_loopw [3,4] (fun s3 s4 wr=>∃ (i:Nat) (os:List Int),i<=zs.length/\s4=Iv i/\OwnI wr w.heap.size s3 os/\w.heap.size<=wr.heap.size/\Bw w wr/\os.length<=i/\Hq ((∀ x,x∈os↔x∈zs.take i)/\os.Pairwise (· < ·))) (fun _ s4 _=>zs.length-(intOf s4).toNat)
 case atStart=>exact⟨0,[],VC _,rfl,Ew w _ (Vu _),by simp,Ah w _,by simp,Hd ⟨fun x=>by simp,List.Pairwise.nil⟩⟩
 case round =>
  obtain⟨i,os,hi,rfl,g0,g6,g1,gk,HP⟩:=hrel
  by_cases gd:i<zs.length
  ·obtain⟨b,off,rfl,hc⟩:=(HI.o.below g1).cells i gd;have gg:(i:Int)<zs.length:=by omega
   obtain⟨z,hz⟩:=Ex (at0 zs i);rw[<- hz] at hc;obtain⟨ao,co,rfl,g8,gj⟩:=g0.sliceIs (by omega);have g4:=Hd (Ra ao co os z wr (by omega) g8);have g3:Hq (z∉os->_):=Hd fun h=>Rb ao co os z wr (by omega) g8 HP.o.2 h
   have ga:=Hd g0;have g5:=Hd g1;have HT:=Hd (Lv gd);have HZ:=Hd hz;clear g0 g1 hz g8
   by_cases hm:z∈os
   ·have hb:decide (z∈os)=true:=by simp[hm]
    rw[hb] at g4
    have gc:Hq ((∀ x,x∈os↔x∈zs.take (i+1))/\os.Pairwise (· < ·)):=Hd ⟨fun x=>by
     rw[HT.o x,<- HZ.o];constructor
     . intro h;exact .inl ((HP.o.1 x).1 h)
     ·rintro(h|rfl)
      . exact(HP.o.1 x).2 h
      . exact hm,HP.o.2⟩
    clear hm hb g3;go_wp2_with fail;refine g4.o.mono ?_;rintro y w' ⟨rfl,rfl⟩;go_wp2_with fail;go_roundw
    case rel=>exact⟨i+1,os,by omega,by go_num,ga.o,g6,g5.o,by omega,gc⟩
    case measure=>simp[intOf];omega
   ·have hb:decide (z∈os)=false:=by simp[hm]
    rw[hb] at g4;have g3:=Hd (g3.o hm);clear hm hb;go_wp2_with fail;refine g4.o.mono ?_;rintro y w' ⟨rfl,rfl⟩;go_wp2_with fail;refine g3.o.mono ?_;rintro y w2 ⟨u,os2,rfl,g7,g2,gi,g9⟩
    have gc:Hq ((∀ x,x∈os2↔x∈zs.take (i+1))/\os2.Pairwise (· < ·)):=Hd ⟨fun x=>by
     rw[g2.1 x,HT.o x,<- HZ.o,HP.o.1 x],g2.2⟩
    have gh:Hq (OwnI w2 w.heap.size u os2):=Hd (g7.lower g6);have HB2:=Hd (g5.o.trans (g9.mono g6));have gf:w.heap.size<=w2.heap.size:=Vy g6 g9.size;clear g7 g2 g9;go_wp2_with fail;go_roundw
    case rel=>exact⟨i+1,os2,by omega,by go_num,gh.o,gf,HB2.o,by omega,gc⟩
    case measure=>simp[intOf];omega
  ·have he:i=zs.length:=by omega
   have gg:¬ (i:Int)<zs.length:=by omega
   have ga:=Hd g0;have g5:=Hd g1;have HM:Hq ((∀ x,x∈os↔x∈zs)/\os.Pairwise (· < ·)):=Hd ⟨fun x=>by have:=HP.o.1 x;rw[he,Wb] at this;exact this,HP.o.2⟩;have ge:os.length<=zs.length:=by omega
   clear g0 g1 he;go_wp2_with fail;go_ret;exact⟨_,rfl,os,ga.o,HM.o,ge,g5.o⟩
theorem A5.agg {w:Wd}{e:ExT}{x:Value}(h:A5 w e x):∃ x0 x1 x2,x=.agg #[x0,x1,x2]/\x0.cells=#[x0]/\x1.cells=#[x1]/\x2.cells=#[x2]:=by
 cases e with
 | nil=>unfold A5 at h;exact h.elim
 | mk op v n kid =>
   unfold A5 at h;obtain⟨a,c,rfl,_⟩:=h;exact⟨_,_,_,rfl,rfl,rfl,rfl⟩
theorem Re (e:ExT)(x:Value)(w:Wd)(hs:e.size<=4096)(h:A5 w e x) :
 Cl 52 #[x] w fun y w'=>∃ u os,y=.returned u/\SliceIs w' u os/\os.length<=4096/\(okT e 1->(∀ v,v∈os↔v∈AM e)/\os.Pairwise (· < ·))/\Bw w w':=by
 have HC:Hq (∀ W,Bw w W->∀ u,u=x->Cl 51 #[u] W fun y w'=>∃ err:Int,y=.returned (Iv err)/\(err=0↔okT e 1)/\Bw W w'):=Hd fun W hb u hu=>by subst hu;exact I1 e _ W hs (h.below hb)
 have HV:Hq (∀ W,Bw w W->∀ u,u=x->Cl 107 #[u] W fun y w'=>∃ u,y=.returned u/\OwnI w' W.heap.size u (AM e)/\Bw W w'):=Hd fun W hb u hu=>by subst hu;exact Ls e _ W hs (h.below hb)
 have ge:=Eg e;obtain⟨x0,x1,x2,hx,o0,o1,o2⟩:=h.agg;subst hx;obtain⟨w1,g2⟩:=Ex (w.alloc (.cells #[x0,x1,x2] 79));have HW1:Hq (_=w1):=Hd g2.symm;have g6:Hq (Bw w w1):=by rw[g2];exact Hd (Ah _ _)
 have g0:w1.heap[w.heap.size]?=some (.cells #[x0,x1,x2] 79 (0,0)):=by rw[g2];exact Vv _ _
 have d0:w1.cell? (Av w.heap.size)=some x0:=by rw[Vt _ _ 0 _ _ _ g0];rfl
 have d1:w1.cell? (Aw w.heap.size 1)=some x1:=by rw[Vt _ _ 1 _ _ _ g0];rfl
 have d2:w1.cell? (Aw w.heap.size 2)=some x2:=by rw[Vt _ _ 2 _ _ _ g0];rfl
 clear h g2 g0
 go_enter func52,ntmps52
 go_upto_region 1 with fail;rw[HW1.o];go_wp2_with fail;refine(HC.o _ g6.o _ rfl).mono ?_;rintro y w2 ⟨err,rfl,g5,g1⟩;have HB2:=Hd (g6.o.trans (g1.mono g6.o.size));have gd:=Hd g5;have e0:=Cq g1 d0;have e1:=Cq g1 d1;have e2:=Cq g1 d2;clear g1 g5 d0 d1 d2
 by_cases he:err=0
 . subst he;go_wp2_with fail;refine(HV.o _ HB2.o _ rfl).mono ?_;rintro y w3 ⟨u,rfl,hu,g9⟩;obtain⟨au,cu,rfl,g7,gf⟩:=hu.sliceIs (by omega);have HO:=Hd (Rc au cu (AM e) w3 (by omega) g7);have ga:=Hd (HB2.o.trans (g9.mono HB2.o.size));clear hu g7 g9 e0 e1 e2;go_wp2_with fail;refine HO.o.mono ?_;rintro y w4 ⟨u4,os,rfl,g3,g4,gc,g8⟩;have HF:Hq (∃ u os,Ending.returned u4=.returned u/\SliceIs w4 u os/\os.length<=4096/\(okT e 1->(∀ v,v∈os↔v∈AM e)/\os.Pairwise (· < ·))/\Bw w w4):=Hd ⟨u4,os,rfl,g3.sliceIs (by omega),by omega,fun _=>g4,ga.o.trans (g8.mono ga.o.size)⟩;clear g3 g4 gc g8;go_wp2_with fail;go_ret;exact HF.o
 ·have gg:(err != 0)=true:=by simpa using he
  have HF:Hq (∃ u os,Ending.returned (.slice none 0 0)=.returned u/\SliceIs w2 u os/\os.length<=4096/\(okT e 1->(∀ v,v∈os↔v∈AM e)/\os.Pairwise (· < ·))/\Bw w w2):=Hd ⟨_,[],rfl,JC w2,by simp,fun h=>(he (gd.o.2 h)).elim,HB2.o⟩;clear he e0 e1 e2;go_wp2_with fail;go_ret;exact HF.o
theorem Rf (e:ExT)(x:Value)(w:Wd)(hs:e.size<=4096)(h:A5 w e x) :
 Cl 52 #[x] w fun y w'=>∃ u os,y=.returned u/\SliceIs w' u os/\os.length<=4096/\(okT e 1->∀ v∈AM e,v∈os)/\Bw w w' :=
 (Re e x w hs h).mono fun _ _ ⟨u,os,h1,h2,h3,h4,h5⟩=>⟨u,os,h1,h2,h3,fun hk v hv=>((h4 hk).1 v).2 hv,h5⟩
structure EvsAt (w:Wd)(a:Option Addr)(l:List Ev):Prop where
 len:l.length<=9223372036854775807
 cells:∀ k,∀ hk:k<l.length,∃ b off,a=some (Aw b off)/\w.cell? (Aw b (off+k*3))=some (Iv l[k].after)/\w.cell? (Aw b (off+k*3+1))=some (Iv l[k].kind)/\w.cell? (Aw b (off+k*3+2))=some (Iv l[k].level)
theorem EvsAt.below {a:Option Addr}{l:List Ev}(h:EvsAt w a l)(hb:Bw w w'):EvsAt w' a l :=
 ⟨h.len,fun k hk=>by
  obtain⟨b,off,e,c0,c1,c2⟩:=h.cells k hk;exact⟨b,off,e,(Cq hb c0),(Cq hb c1),(Cq hb c2)⟩⟩
def CK (vars:Int)(e:Ev):Int:=if e.kind<1\/e.kind>3 then 11 else if e.after<1\/(e.kind=2/\(e.level<0\/e.level>vars-2)) then 2 else 0
def CL (vars:Int):List Ev->Int
 | []=>0
 | e::r=>if CK vars e=0 then CL vars r else CK vars e
def Bo (vars waits:Int)(l:List Ev):Int:=if (l.length:Int)>256-waits then 18 else CL vars l
theorem FY {vars:Int}{l:List Ev}(hi:i<l.length):CL vars (l.drop i)=if CK vars l[i]=0 then CL vars (l.drop (i+1)) else CK vars l[i]:=by
 rw[VT hi];rfl
theorem Rg (vars waits:Int)(hv:0<=vars/\vars<=1000)(hw:0<=waits/\waits<=1000)(a:Option Addr)(c:Nat)(l:List Ev)(w:Wd)(h:EvsAt w a l) :
 Cl 49 #[Iv vars,Iv waits,.slice a l.length c] w (Sm (Iv (Bo vars waits l)) w):=by
 have HI:=Hd h;have hl:=h.len;clear h
 by_cases g1:(l.length:Int)>256-waits
 ·have HR:Hq (Bo vars waits l=18):=Hd (by unfold Bo;rw[Vw g1])
  go_enter func49,ntmps49
  go_wp2_with fail;go_ret;exact⟨by rw[HR.o];rfl,rfl⟩
 have HR:Hq (Bo vars waits l=CL vars (l.drop 0)):=Hd (by unfold Bo;rw[Vs g1];rfl);obtain⟨P,hP⟩:=Ex (Bo vars waits l);rw[<- hP] at HR ⊢;clear hP
 go_enter func49,ntmps49
 go_wp2_with fail
 go_loopw [7] (fun s7 wr=>∃ i:Nat,i<=l.length/\s7=Iv i/\w=wr/\Hq (P=CL vars (l.drop i))) (fun s7 _=>l.length-(intOf s7).toNat)
 case atStart=>exact⟨0,VC _,rfl,rfl,HR⟩
 case round =>
  clear HR;obtain⟨i,hi,rfl,rfl,HP⟩:=hrel
  by_cases g2:i<l.length
  ·obtain⟨b,off,rfl,c0,c1,c2⟩:=HI.o.cells i g2;have g8:(i:Int)<l.length:=by omega
   have HC:Hq (∀ z:Int,CK vars l[i]=z->z≠0->P=z):=Hd fun z hz h0=>by rw[HP.o,FY g2,hz,Vs h0]
   have HN:Hq (CK vars l[i]=0->P=CL vars (l.drop (i+1))):=Hd fun hz=>by rw[HP.o,FY g2,hz,Vw rfl]
   have HE:Hq (CK vars l[i]=if l[i].kind<1\/l[i].kind>3 then 11 else if l[i].after<1\/(l[i].kind=2/\(l[i].level<0\/l[i].level>vars-2)) then 2 else 0):=Hd rfl;obtain⟨ev,g3⟩:=Ex (l[i]);rw[<- g3] at c0 c1 c2 HC HN HE;obtain⟨af,ki,le⟩:=ev;dsimp only at c0 c1 c2 HE;clear g3 HP;have g6:ki<1\/ki>3\/(ki=2)\/(ki=1\/ki=3):=by omega
   rcases g6 with hk|hk|hk|hk
   . have g0:=Hd (HC.o 11 (by rw[HE.o,Vw (.inl hk)]) (by decide));go_wp2_with fail;go_ret;exact⟨by rw[g0.o];rfl,rfl⟩
   ·have g0:=Hd (HC.o 11 (by rw[HE.o,Vw (.inr hk)]) (by decide));have g7:¬ ki<1:=by omega
    go_wp2_with fail;go_ret;exact⟨by rw[g0.o];rfl,rfl⟩
   ·by_cases ha:af<1
    . have g0:=Hd (HC.o 2 (by rw[HE.o,Vs (by omega),Vw (.inl ha)]) (by decide));subst hk;go_wp2_with fail;go_ret;exact⟨by rw[g0.o];rfl,rfl⟩
    ·by_cases g5:le<0
     . have g0:=Hd (HC.o 2 (by rw[HE.o,Vs (by omega),Vw (.inr ⟨hk,.inl g5⟩)]) (by decide));subst hk;go_wp2_with fail;go_ret;exact⟨by rw[g0.o];rfl,rfl⟩
     ·by_cases g4:le>vars-2
      . have g0:=Hd (HC.o 2 (by rw[HE.o,Vs (by omega),Vw (.inr ⟨hk,.inr g4⟩)]) (by decide));subst hk;go_wp2_with fail;go_ret;exact⟨by rw[g0.o];rfl,rfl⟩
      ·have g0:=Hd (HN.o (by rw[HE.o,Vs (by omega),Vs (by omega)]));subst hk;go_wp2_with fail;go_roundw
       case rel=>exact⟨i+1,by omega,by go_num,by simp,g0⟩
       case measure=>simp[intOf];omega
   ·have g7:¬ ki<1:=by omega
    have ga:¬ ki>3:=by omega
    have g9:(ki == 2)=false:=by simp;omega
    by_cases ha:af<1
    . have g0:=Hd (HC.o 2 (by rw[HE.o,Vs (by omega),Vw (.inl ha)]) (by decide));clear hk;go_wp2_with fail;go_ret;exact⟨by rw[g0.o];rfl,rfl⟩
    ·have g0:=Hd (HN.o (by rw[HE.o,Vs (by omega),Vs (by omega)]));clear hk;go_wp2_with fail;go_roundw
     case rel=>exact⟨i+1,by omega,by go_num,by simp,g0⟩
     case measure=>simp[intOf];omega
  ·have he:i=l.length:=by omega
   have g8:¬ (i:Int)<l.length:=by omega
   have g0:Hq (P=0):=Hd (by rw[HP.o,he,List.drop_length];rfl);clear he;go_wp2_with fail;go_ret;exact⟨by rw[g0.o];rfl,rfl⟩
def cntP (zs:List Int)(v:Int)(i:Nat):Nat:=((zs.take i).filter (fun z=>decide (z=v))).length
theorem DH {v:Int}(hi:i<zs.length)(h:at0 zs i=v):cntP zs v (i+1)=cntP zs v i+1:=by
 rw[As hi] at h;unfold cntP;rw[Vz hi,WM];simp[h]
theorem I2 {v:Int}(hi:i<zs.length)(h:at0 zs i≠v):cntP zs v (i+1)=cntP zs v i:=by
 rw[As hi] at h;unfold cntP;rw[Vz hi,WM];simp[h]
theorem Rh (zs:List Int)(v:Int)(i:Nat):cntP zs v i<=i:=by
 unfold cntP;refine Vy (WD _ _) ?_;rw[Wz];omega
def B7 (zs:List Int)(n:Int):Bool:=decide ((zs.length:Int)=n/\∀ v,v<zs.length->cntP zs (v:Nat) zs.length=1)
theorem Ri (a:Option Addr)(c:Nat)(zs:List Int)(n:Int)(w:Wd)(hz:Ar w a zs)(hl:zs.length<=1000000) :
 Cl 23 #[.slice a zs.length c,Iv n] w (Sm (.bool (B7 zs n)) w):=by
 have HZ:=Hd hz;clear hz
 by_cases hn:(zs.length:Int)=n
 ·subst hn;have HR:Hq (∀ b:Bool,(b=true↔∀ v,v<zs.length->cntP zs (v:Nat) zs.length=1)->B7 zs zs.length=b):=by
   refine Hd fun b hb=>?_
   unfold B7;rw[Bool.eq_iff_iff,hb];simp
  go_enter func23,ntmps23
  go_wp2_with fail
  go_loopw [5] (fun s5 wr=>∃ k:Nat,k<=zs.length/\s5=Iv k/\w=wr/\∀ v,v<k->cntP zs (v:Nat) zs.length=1) (fun s5 _=>zs.length-(intOf s5).toNat)
  case atStart=>exact⟨0,VC _,rfl,rfl,fun v hv=>by omega⟩
  case round =>
   obtain⟨k,hk,rfl,rfl,g2⟩:=hrel;have HA:=Hd g2;clear g2
   by_cases g3:k<zs.length
   ·have g4:(k:Int)<zs.length:=by omega
    go_wp2_with fail
    go_loopw [6,7] (fun s6 s7 wx=>∃ i:Nat,i<=zs.length/\s7=Iv i/\s6=Iv (cntP zs (k:Nat) i:Nat)/\w=wx) (fun _ s7 _=>zs.length-(intOf s7).toNat)
    case atStart=>exact⟨0,VC _,rfl,rfl,rfl⟩
    case round =>
     obtain⟨i,hi,rfl,rfl,rfl⟩:=hrel;have g6:=Rh zs (k:Nat) i
     by_cases g1:i<zs.length
     ·obtain⟨b,off,ha,hc⟩:=HZ.o.cells i g1;subst ha;have g5:(i:Int)<zs.length:=by omega
      by_cases he:at0 zs i=(k:Nat)
      ·rw[he] at hc;have HY:=Hd (DH g1 he);go_wp2_with fail;go_roundw
       case rel=>exact⟨i+1,by omega,by go_num,by rw[HY.o];go_num,trivial⟩
       case measure=>simp[intOf];omega
      ·have g0:((at0 zs i:Int) == (k:Nat))=false:=by simpa using he
       have HY:=Hd (I2 g1 he)
       generalize at0 zs i=z at hc g0
       clear he;go_wp2_with fail;go_roundw
       case rel=>exact⟨i+1,by omega,by go_num,by rw[HY.o],trivial⟩
       case measure=>simp[intOf];omega
     ·obtain rfl:i=zs.length:=by omega
      generalize hq:cntP zs (k:Nat) zs.length=q at *
      by_cases h1:q=1
      ·subst h1;have HQ:=Hd hq;clear hq;go_wp2_with fail;go_roundw
       case rel =>
        refine⟨k+1,by omega,by go_num,trivial,fun v hv=>?_⟩
        by_cases e:v=k
        . subst e;exact HQ.o
        . exact HA.o v (by omega)
       case measure=>simp[intOf];omega
      ·have g0:((q:Int) == 1)=false:=by simp;omega
       have HQ:=Hd hq;clear hq;go_wp2_with fail;go_ret;refine⟨?_,rfl⟩
       rw[HR.o false (by
        simp only[X7,false_iff];intro hh;exact h1 ((HQ.o).symm.trans (hh k g3)))]
       rfl
   ·obtain rfl:k=zs.length:=by omega
    go_wp2_with fail;go_ret;refine⟨?_,rfl⟩;rw[HR.o true (by simp only[true_iff];exact HA.o)];rfl
 ·have g0:(((zs.length:Nat):Int) == n)=false:=by simpa using hn
  have HR:Hq (B7 zs n=false):=by
   refine Hd ?_
   show B7 zs n=false
   unfold B7;simp[hn]
  go_enter func23,ntmps23
  go_wp2_with fail;go_ret;exact⟨by rw[HR.o];rfl,rfl⟩
theorem Rj (a:Option Addr)(c:Nat)(zs:List Int)(n:Int)(w:Wd)(hz:Ar w a zs)(hn:(zs.length:Int)≠n) :
 Cl 23 #[.slice a zs.length c,Iv n] w (Sm (.bool false) w):=by
 have hl:=hz.len;have g0:(((zs.length:Nat):Int) == n)=false:=by simpa using hn
 clear hz
 go_enter func23,ntmps23
 go_wp2_with fail;go_ret;exact⟨rfl,rfl⟩
theorem Rk (a:Option Addr)(c:Nat)(zs:List Int)(n:Int)(w:Wd)(hz:Ar w a zs)(hn:n<=1000) :
 Cl 23 #[.slice a zs.length c,Iv n] w (Sm (.bool (B7 zs n)) w):=by
 by_cases h:(zs.length:Int)=n
 . exact Ri a c zs n w hz (by omega)
 ·have:B7 zs n=false:=by unfold B7;simp[h]
  rw[this];exact Rj a c zs n w hz h
theorem A5.parts {e:ExT}{x0 x1 x2:Value}(h:A5 w e (.agg #[x0,x1,x2])):∃ op v a n c,x0=Iv op/\x1=Iv v/\x2=.slice a n c:=by
 cases e with
 | nil=>unfold A5 at h;exact h.elim
 | mk op v n kid =>
   unfold A5 at h;obtain⟨a,c,hx,_⟩:=h;cases hx;exact⟨_,_,_,_,_,rfl,rfl,rfl⟩
structure EP (w:Wd)(a:Option Addr)(l:List ExT):Prop where
 len:l.length<=9223372036854775807
 cells:∀ k,∀ hk:k<l.length,∃ b off x0 x1 x2,a=some (Aw b off)/\w.cell? (Aw b (off+k*3))=some x0/\w.cell? (Aw b (off+k*3+1))=some x1/\w.cell? (Aw b (off+k*3+2))=some x2/\A5 w l[k] (.agg #[x0,x1,x2])
theorem EP.below {w w':Wd}{a:Option Addr}{l:List ExT}(h:EP w a l)(hb:Bw w w'):EP w' a l :=
 ⟨h.len,fun k hk=>by
  obtain⟨b,off,x0,x1,x2,e,c0,c1,c2,hx⟩:=h.cells k hk;exact⟨b,off,x0,x1,x2,e,(Cq hb c0),(Cq hb c1),(Cq hb c2),hx.below hb⟩⟩
structure AskD where
 vars:Int
 order:List Int
 es:List ExT
 plan:List Ev
structure AskAt (w:Wd)(q:AskD)(ao ae ap:Option Addr):Prop where
 vars:okI q.vars
 order:Ar w ao q.order
 es:EP w ae q.es
 plan:EvsAt w ap q.plan
theorem AskAt.below {w w':Wd}{q:AskD}{ao ae ap:Option Addr}(h:AskAt w q ao ae ap)(hb:Bw w w'):AskAt w' q ao ae ap:=⟨h.vars,h.order.below hb,h.es.below hb,h.plan.below hb⟩
structure Eh (q:AskD):Prop where
 lo:1<=q.vars
 hi:q.vars<=6
 es:q.es.length<=5
 plan:q.plan.length<=6
 order:q.order.length>0->B7 q.order q.vars=true
 planOk:Bo q.vars 0 q.plan=0
 after:∀ ev∈q.plan,ev.after<=300
 expr:∀ e∈q.es,e.size<=40/\okT e 1/\∀ v∈AM e,v<q.vars
def askV (q:AskD)(ao ae ap:Option Addr)(co ce cp:Nat):Value:=.agg #[Iv q.vars,.slice ao q.order.length co,.slice ae q.es.length ce,.slice ap q.plan.length cp]
theorem Rl (q:AskD)(ao ae ap:Option Addr)(co ce cp:Nat)(w:Wd)(h:AskAt w q ao ae ap) :
 Cl 14 #[askV q ao ae ap co ce cp] w fun y w'=>∃ b,y=.returned (.bool b)/\(b=true->Eh q)/\Bw w w':=by
 obtain⟨vars,order,es,plan⟩:=q;obtain⟨hv,ho,he,hp⟩:=h;dsimp only [askV] at hv ho he hp ⊢;unfold okI at hv;have hd:=ho.len;have hm:=he.len;have hc:=hp.len;have HO:=Hd ho;have HE:=Hd he;have HP:=Hd hp;obtain⟨w1,gh⟩:=Ex (w.alloc (.cells #[Iv vars,.slice ao order.length co,.slice ae es.length ce,.slice ap plan.length cp] 26));have HW1:Hq (_=w1):=Hd gh.symm;have g9:Hq (Bw w w1):=by rw[gh];exact Hd (Ah _ _)
 have g0:w1.heap[w.heap.size]?=some (.cells #[Iv vars,.slice ao order.length co,.slice ae es.length ce,.slice ap plan.length cp] 26 (0,0)):=by rw[gh];exact Vv _ _
 have d0:w1.cell? (Av w.heap.size)=some (Iv vars):=by rw[Vt _ _ 0 _ _ _ g0];rfl
 have d1:w1.cell? (Aw w.heap.size 1)=some (.slice ao order.length co):=by rw[Vt _ _ 1 _ _ _ g0];rfl
 have d2:w1.cell? (Aw w.heap.size 2)=some (.slice ae es.length ce):=by rw[Vt _ _ 2 _ _ _ g0];rfl
 have d3:w1.cell? (Aw w.heap.size 3)=some (.slice ap plan.length cp):=by rw[Vt _ _ 3 _ _ _ g0];rfl
 have hs1:w1.heap.size=w.heap.size+1:=by rw[gh];simp
 have ge:Hq (vars<=6->Cl 23 #[.slice ao order.length co,Iv vars] w1 (Sm (.bool (B7 order vars)) w1)):=Hd fun hh=>Rk ao co order vars w1 (HO.o.below g9.o) (by omega)
 have gf:Hq (0<=vars->vars<=6->Cl 49 #[Iv vars,Iv 0,.slice ap plan.length cp] w1 (Sm (Iv (Bo vars 0 plan)) w1)):=Hd fun h1 h2=>Rg vars 0 ⟨h1,by omega⟩ ⟨by omega,by omega⟩ ap cp plan w1 (HP.o.below g9.o)
 obtain⟨P,hP⟩:=Ex (fun y w'=>∃ b,y=.returned (.bool b)/\(b=true->Eh ⟨vars,order,es,plan⟩)/\Bw w w':Ending->Wd->Prop)
 have gl:Hq (∀ W,Bw w1 W->P (.returned (.bool false)) W):=by rw[hP];exact Hd fun W hb=>⟨false,rfl,by simp,g9.o.trans (hb.mono g9.o.size)⟩
 have gM:Hq (Eh ⟨vars,order,es,plan⟩->∀ W,Bw w1 W->P (.returned (.bool true)) W):=by rw[hP];exact Hd fun hq W hb=>⟨true,rfl,fun _=>hq,g9.o.trans (hb.mono g9.o.size)⟩
 rw[<- hP];clear ho he hp gh g0 hP
 go_enter func14,ntmps14
 go_upto_region 1 with fail;rw[HW1.o]
 go_cut [50] (fun s50 wx=>∃ bad:Bool,s50=.bool bad/\wx=w1/\Hq (bad=false->1<=vars/\vars<=6/\es.length<=5/\plan.length<=6/\(order.length>0->B7 order vars=true)/\Bo vars 0 plan=0))
 case first =>
  by_cases h1:vars<1
  ·go_wp2_with fail;go_meet
   case rel=>exact⟨true,rfl,rfl,Hd (by simp)⟩
  by_cases h2:vars>6
  ·go_wp2_with fail;go_meet
   case rel=>exact⟨true,rfl,rfl,Hd (by simp)⟩
  by_cases h3:(es.length:Int)>5
  ·go_wp2_with fail;go_meet
   case rel=>exact⟨true,rfl,rfl,Hd (by simp)⟩
  by_cases h4:(plan.length:Int)>6
  ·go_wp2_with fail;go_meet
   case rel=>exact⟨true,rfl,rfl,Hd (by simp)⟩
  have gf:=Hd (gf.o (by omega) (by omega));have ge:=Hd (ge.o (by omega));obtain⟨pr,gq⟩:=Ex (Bo vars 0 plan);rw[<- gq] at gf;have gI:=Hd gq;clear gq
  by_cases h5:(order.length:Int)>0
  ·obtain⟨rb,gp⟩:=Ex (B7 order vars);rw[<- gp] at ge;have gU:=Hd gp;clear gp;cases rb with
   | false =>
     go_wp2_with fail;refine ge.o.mono ?_;rintro y w' ⟨rfl,rfl⟩;go_wp2_with fail;go_meet
     case rel=>exact⟨true,rfl,rfl,Hd (by simp)⟩
   | true =>
     go_wp2_with fail;refine ge.o.mono ?_;rintro y w' ⟨rfl,rfl⟩;go_wp2_with fail;refine gf.o.mono ?_;rintro y w' ⟨rfl,rfl⟩
     by_cases h6:pr=0
     ·have gg:Hq (1<=vars/\vars<=6/\es.length<=5/\plan.length<=6/\(order.length>0->B7 order vars=true)/\Bo vars 0 plan=0):=Hd ⟨by omega,by omega,by omega,by omega,fun _=>gU.o.symm,by rw[<- gI.o,h6]⟩;subst h6;go_wp2_with fail;go_meet
      case rel=>exact⟨false,rfl,rfl,Hd fun _=>gg.o⟩
     ·have gS:(pr != 0)=true:=by simpa using h6
      clear h6;go_wp2_with fail;go_meet
      case rel=>exact⟨true,rfl,rfl,Hd (by simp)⟩
  ·go_wp2_with fail;refine gf.o.mono ?_;rintro y w' ⟨rfl,rfl⟩
   by_cases h6:pr=0
   ·have gg:Hq (1<=vars/\vars<=6/\es.length<=5/\plan.length<=6/\(order.length>0->B7 order vars=true)/\Bo vars 0 plan=0):=Hd ⟨by omega,by omega,by omega,by omega,fun _=>by omega,by rw[<- gI.o,h6]⟩;subst h6;go_wp2_with fail;go_meet
    case rel=>exact⟨false,rfl,rfl,Hd fun _=>gg.o⟩
   ·have gS:(pr != 0)=true:=by simpa using h6
    clear h6;go_wp2_with fail;go_meet
    case rel=>exact⟨true,rfl,rfl,Hd (by simp)⟩
 case rest =>
  obtain⟨bad,rfl,rfl,gB⟩:=hcut;clear ge gf;cases bad with
  | true =>
    go_wp2_with fail;exact gl.o _ (VI _ _)
  | false =>
    obtain⟨g1,g2,g3,g4,g5,g6⟩:=gB.o rfl;have gZ:=Hd g5;have gY:=Hd g6;clear g5 g6 gB;go_upto_region 3 with fail;go_wp2_with fail
    go_loopw [4,54] (fun s4 s54 wr=>∃ k:Nat,k<=plan.length/\s54=Iv k/\Bw wc wr/\Hq (∀ ev∈plan.take k,ev.after<=300)) (fun _ s54 _=>plan.length-(intOf s54).toNat)
    case atStart=>exact⟨0,VC _,rfl,VI _ _,Hd fun ev he=>by simp at he⟩
    case round =>
     obtain⟨k,hk,rfl,g7,HA⟩:=hrel
     by_cases gi:k<plan.length
     ·obtain⟨b,off,rfl,c0,c1,c2⟩:=((HP.o.below g9.o).below g7).cells k gi;have gP:(k:Int)<plan.length:=by omega
      have g8:=Hd g7;have gk:Hq (∀ ev∈plan.take (k+1),ev∈plan.take k\/ev=plan[k]):=Hd fun ev he=>by
       rw[Vz gi,VF,VB] at he;exact he
      obtain⟨ev,ga⟩:=Ex (plan[k]);rw[<- ga] at c0 c1 c2 gk;obtain⟨af,ki,le⟩:=ev;dsimp only at c0 c1 c2;clear ga g7
      by_cases hn:af>300
      . have HF:=Hd (gl.o _ (g8.o.trans ((Ah wr (.cells #[Iv af,Iv ki,Iv le] 77)).mono g8.o.size)));go_wp2_with fail;exact HF.o
      ·have HF:=Hd (g8.o.trans ((Ah wr (.cells #[Iv af,Iv ki,Iv le] 77)).mono g8.o.size));have h7:Hq (∀ ev∈plan.take (k+1),ev.after<=300):=Hd fun ev he=>by
        rcases gk.o ev he with h|rfl
        . exact HA.o ev h
        . dsimp only;omega
       go_wp2_with fail;go_roundw
       case rel=>exact⟨k+1,by omega,by go_num,HF.o,h7⟩
       case measure=>simp[intOf];omega
     ·have h0:Hq (∀ ev∈plan,ev.after<=300):=Hd fun ev ga=>HA.o ev (by rw[Wv (by omega)];exact ga)
      have gP:¬ (k:Int)<plan.length:=by omega
      have d0':=Cq g7 d0;have d2':=Cq g7 d2;have g8:=Hd g7;obtain⟨wA,ha⟩:=Ex wr;clear g7;go_wp2_with fail
      go_loopw [6,8,65] (fun s6 s8 s65 wx=>∃ k:Nat,k<=es.length/\s65=Iv k/\Bw wc wx/\Hq (∀ e∈es.take k,e.size<=40/\okT e 1/\∀ v∈AM e,v<vars)) (fun _ _ s65 _=>es.length-(intOf s65).toNat)
      case atStart=>exact⟨0,VC _,rfl,g8.o,Hd fun ev he=>by simp at he⟩
      case round =>
       rename Wd=>wy
       obtain⟨j,hj,rfl,gj,HB⟩:=hrel
       by_cases gi:j<es.length
       ·obtain⟨b,off,x0,x1,x2,rfl,c0,c1,c2,hx⟩:=((HE.o.below g9.o).below gj).cells j gi;have gQ:(j:Int)<es.length:=by omega
        have gK:=Hd gj;have gk:Hq (∀ e∈es.take (j+1),e∈es.take j\/e=es[j]):=Hd fun e he=>by
         rw[Vz gi,VF,VB] at he;exact he
        have gv:=Cq gj d0;obtain⟨e,ga⟩:=Ex (es[j]);rw[<- ga] at hx gk;have HX:=Hd hx;obtain⟨zo,zv,za,zn,zc,rfl,rfl,rfl⟩:=hx.parts;clear ga gj hx;go_upto_region 12 with fail;obtain⟨wz,gm⟩:=Ex (wy.alloc (.cells #[Iv zo,Iv zv,.slice za zn zc] 79));have go:Bw wy wz:=by rw[gm];exact Ah _ _
        have g0:wz.heap[wy.heap.size]?=some (.cells #[Iv zo,Iv zv,.slice za zn zc] 79 (0,0)):=by rw[gm];exact Vv _ _
        have k0:wz.cell? (Av wy.heap.size)=some (Iv zo):=by rw[Vt _ _ 0 _ _ _ g0];rfl
        have k1:wz.cell? (Aw wy.heap.size 1)=some (Iv zv):=by rw[Vt _ _ 1 _ _ _ g0];rfl
        have k2:wz.cell? (Aw wy.heap.size 2)=some (.slice za zn zc):=by rw[Vt _ _ 2 _ _ _ g0];rfl
        have kd:=Cq go gv;have gx:=Hd (HX.o.below go);have gJ:=Hd (gK.o.trans (go.mono gK.o.size));rw[<- gm];clear gm go g0 c0 c1 c2 gv;go_wp2_with fail;refine(Lq e _ 40 _ (by omega) gx.o).mono ?_;rintro y wp ⟨⟨r,rfl,_,_,gD⟩,gd⟩;have gA:=Hd (gJ.o.trans (gd.mono gJ.o.size));have gy:=Hd (gx.o.below gd);have m0:=Cq gd k0;have m1:=Cq gd k1;have m2:=Cq gd k2;have md:=Cq gd kd;clear gd k0 k1 k2 kd
        by_cases hr:(r:Int)>40
        . have HF:=Hd (gl.o _ gA.o);go_wp2_with fail;exact HF.o
        have gC:e.size<=40:=by have:=gD (by omega);omega
        clear gD;go_wp2_with fail;refine(I1 e _ _ (by omega) gy.o).mono ?_;rintro y wq ⟨err,rfl,gu,gc⟩;have gz:=Hd (gA.o.trans (gc.mono gA.o.size));have gF:=Hd (gy.o.below gc);have n0:=Cq gc m0;have n1:=Cq gc m1;have n2:=Cq gc m2;have nd:=Cq gc md;have gX:=Hd gu;clear gc m0 m1 m2 md gu
        by_cases gn:err=0
        ·have gg:=Hd (gX.o.1 gn);subst gn;go_wp2_with fail;refine(Rf e _ _ (by omega) gF.o).mono ?_;rintro y ws ⟨u,os,rfl,gO,h8,gr,gw⟩;obtain⟨au,cu,rfl,gE,hf⟩:=gO;have gL:=Hd (gz.o.trans (gw.mono gz.o.size));have pd:=Cq gw nd;have gV:=Hd gE;have gN:=Hd (gr gg.o);clear gw n0 n1 n2 nd gE gr HX gx gy gF;go_wp2_with fail
         go_loopw [8,80] (fun s8 s80 wt=>∃ i:Nat,i<=os.length/\s80=Iv i/\wt=ws/\Hq (∀ v∈os.take i,v<vars)) (fun _ s80 _=>os.length-(intOf s80).toNat)
         case atStart=>exact⟨0,VC _,rfl,rfl,Hd fun v hv=>by simp at hv⟩
         case round =>
          obtain⟨i,hi,rfl,rfl,gG⟩:=hrel
          by_cases gt:i<os.length
          ·obtain⟨b2,of2,rfl,cc⟩:=gV.o.cells i gt;have gR:(i:Int)<os.length:=by omega
           have gH:=Hd (Lv gt);obtain⟨z,hz⟩:=Ex (at0 os i);rw[<- hz] at cc gH;clear hz
           by_cases h9:z>=vars
           . have HF:=Hd (gl.o _ gL.o);go_wp2_with fail;exact HF.o
           ·have gT:Hq (∀ v∈os.take (i+1),v<vars):=Hd fun v hv=>by
             rcases(gH.o v).1 hv with h|rfl
             . exact gG.o v h
             . omega
            go_wp2_with fail;go_roundw
            case rel=>exact⟨i+1,by omega,by go_num,by simp,gT⟩
            case measure=>simp[intOf];omega
          ·have gR:¬ (i:Int)<os.length:=by omega
           have HB2:Hq (∀ e∈es.take (j+1),e.size<=40/\okT e 1/\∀ v∈AM e,v<vars):=Hd fun e' he'=>by
            rcases gk.o e' he' with h|rfl
            . exact HB.o e' h
            . exact⟨gC,gg.o,fun v hv=>gG.o v (by rw[Wv (by omega)];exact gN.o v hv)⟩
           go_wp2_with fail;go_roundw
           case rel=>exact⟨j+1,by omega,by go_num,gL.o,HB2⟩
           case measure=>simp[intOf];omega
        ·have hg:(err != 0)=true:=by simpa using gn
         have HF:=Hd (gl.o _ gz.o);clear gn;go_wp2_with fail;exact HF.o
       ·have gQ:¬ (j:Int)<es.length:=by omega
        have HF:=Hd (gM.o ⟨g1,g2,g3,g4,gZ.o,gY.o,h0.o,fun e he=>HB.o e (by rw[Wv (by omega)];exact he)⟩ _ gj);go_wp2_with fail;exact HF.o
theorem I3 (w:Wd)(blk m:Nat)(dk:Array (Nat×Nat))(os:Array Obj)(hg:g<w.heap.size)(hne:g≠blk):(sortWorldK AR 2 w blk 0 m dk os).heap[g]?=w.heap[g]?:=by
 unfold sortWorldK grow putRowK putRow mapBlock;simp[Array.getElem?_append,XN,Array.getElem_modify,hg,Wn hne]
theorem Lw (w:Wd)(blk m:Nat)(dk:Array (Nat×Nat))(os:Array Obj):w.heap.size<=(sortWorldK AR 2 w blk 0 m dk os).heap.size:=by
 have h:(sortWorldK AR 2 w blk 0 m dk os).heap.size=w.heap.size+os.size:=by
  unfold sortWorldK grow putRowK;simp
 omega
theorem Lx {f:Nat×Nat->Option Nat}(h:A3 w mb encE lm)(hf:∀ k,getL lm k=(f k).map (fun(id:Nat)=>Value.int .i64 id))(k:Nat×Nat) :
 (Instr.lookup 228 (.map (some mb)) (.agg #[Iv k.1,Iv k.2]) false).run prog w=.ok (Iv ((f k).getD 0:Nat)) w:=by
 have h1:=h.lookup Dl underlying228 zeroValue3 k false;rw[hf k] at h1;cases hk:f k with
 | none=>rw[hk] at h1;exact h1
 | some id=>rw[hk] at h1;exact h1
theorem Rm {f:Nat×Nat->Option Nat}{ks:List (Nat×Nat)}{Bx t blk:Nat}(hH:HoldsK AR 2 w blk 0 ks.toArray)(hblk:blk<w.heap.size)(hlen:ks.length<1000000000)
 (cB:w.cell? (Av Bx)=some (Pt t)) (cT:w.cell? (Av t)=some (.map (some mb))) (hm:A3 w mb encE lm) (hf:∀ k,getL lm k=(f k).map (fun(id:Nat)=>Value.int .i64 id)) (n1:Bx≠blk) (n2:t≠blk) (n3:mb≠blk) :
 Cl 269 #[.slice (some (Av blk)) ks.length cap,.func (.func 270) #[] #[Pt Bx]] w fun e w'=>e=.returned (.tuple #[])/\∃ ks':List (Nat×Nat),ks'.Perm ks/\HoldsK AR 2 w' blk 0 ks'.toArray/\w.heap.size<=w'.heap.size/\w'.os=w.os/\w'.tape=w.tape/\w'.output=w.output/\∀ g,g<w.heap.size->g≠blk->w'.heap[g]?=w.heap[g]?:=by
 have g1:CmpLays prog 270 #[Pt Bx] AR 2 (cfK f) blk 0 ks.toArray.size w:=by
  intro m os dk hs x y;have hk:∀ {p:Addr} {v:Value},w.cell? p=some v->p.block≠blk->(sortWorldK AR 2 w blk 0 m dk os).cell? p=some v:=fun hc hn=>(Wl (w:=w) (I3 w blk m dk os (Af hc) hn)).trans hc
  refine QQ f x y Bx t mb _ (hk cB n1) (hk cT n2) (fun W' k hb=>?_);obtain⟨es,c,g3,rest⟩:=hm.ex;refine Lx (lm:=lm) ⟨⟨es,c,Eq.trans ?_ g3,rest⟩,hm.nodup⟩ hf k;exact(hb.block mb (VJ hm.lt (Lw w blk m dk os))).trans (I3 w blk m dk os hm.lt n3)
 have g0:=AnyQ.slices_SortFunc Tryz.sortKeys 2 Tryz.isAgg280 Tryz.sizeOf280 AR (fun _=>rfl) (fun x v hv=>by simp[AR] at hv;rcases hv with rfl|rfl<;>rfl) (cfK f) (swoK f) 270 #[Pt Bx] blk 0 cap ks.toArray w (XS func270 (by kernel_rfl) rfl) g1 hH hblk (by simp;omega)
 change Cl 269 _ _ _ at g0
 have e:ks.toArray.size=ks.length:=by simp
 rw[e] at g0;refine g0.mono ?_;rintro x w' ⟨rfl,d',n,os,hp,_,rfl⟩;obtain⟨p1,_,p3⟩:=hp;have p1':d'.size=ks.length:=by simpa using p1
 refine⟨rfl,d'.toList,?_,?_,Lw _ _ _ _ _,rfl,rfl,rfl,fun g hg g2=>I3 _ _ _ _ _ hg g2⟩
 ·have q1:d'.extract 0 ks.length=d':=by rw[<- p1'];simp
  rw[q1] at p3;simpa using p3
 . have h1:HoldsK AR 2 (Sort.ahead w n) blk 0 ks.toArray:=hH;have h2:=holdsK_putRowK AR 2 (Sort.ahead w n) blk 0 ks.toArray d' h1 (by simpa using p1');have h3:=holdsK_grow AR 2 (putRowK AR 2 (Sort.ahead w n) blk 0 d') os blk 0 d' (by simp[putRowK,putRow,mapBlock,hblk]) h2;simpa using(show HoldsK AR 2 (sortWorldK AR 2 w blk 0 n d' os) blk 0 d' from h3)
theorem Rn {f:Nat×Nat->Option Nat}{ks:List (Nat×Nat)}(hp:ks.Perm (lm.map Prod.fst))(hn:(lm.map Prod.fst).Nodup)(hf:∀ k,getL lm k=(f k).map (fun(id:Nat)=>Value.int .i64 id)){xs:List ((Nat×Nat)×Nat)}(hx:xs=ks.map (fun k=>(k,(f k).getD 0))) :
 (xs.map Prod.fst).Nodup/\∀ k id,(k,id)∈xs↔f k=some id:=by
 subst hx;have e:(ks.map (fun k=>(k,(f k).getD 0))).map Prod.fst=ks:=by simp[Xa,Function.comp_def]
 have hm:∀ k,k∈ks↔f k≠none:=fun k=>by
  rw[hp.mem_iff];have h1:=CV (l:=lm) (k:=k);rw[hf k] at h1;constructor
  . intro hk e;rw[e] at h1;obtain⟨p,g0,rfl⟩:=VD.1 hk;exact h1.1 rfl p g0 rfl
  ·intro hk
   by_cases hc:k∈lm.map Prod.fst
   . exact hc
   ·exfalso;have:=h1.2 (fun p g0 e=>hc (VD.2 ⟨p,g0,e⟩));cases h2:f k with
    | none=>exact hk h2
    | some i=>rw[h2] at this;cases this
 refine⟨by rw[e];exact hp.nodup_iff.2 hn,fun k id=>?_⟩;simp only[VD,Xg];constructor
 ·rintro⟨k0,h0,rfl,rfl⟩;cases h2:f k0 with
  | none=>exact absurd h2 ((hm k0).1 h0)
  | some i=>rfl
 . intro h;exact⟨k,(hm k).2 (by rw[h];simp),rfl,by rw[h];rfl⟩
theorem Ro {α:Type}{G:List α->Prop}{xs:List α}(hg:G xs){x:α}(hx:xs[k]?=some x):∃ suf,G (xs.take k++x::suf)/\xs.take (k+1)=xs.take k++[x]:=by
 obtain⟨hk,e⟩:=Wf.1 hx;refine⟨xs.drop (k+1),?_,by rw[Vz hk,e]⟩;have:xs.take k++x::xs.drop (k+1)=xs:=by
  rw[<- e,<- VT hk];exact Xo k xs
 rw[this];exact hg
theorem Ly {o:Own}(h:Az o w sb d)(hlt:Ac o w)(hk:Ak d V)(f:Nat)(hf:okE (Aa d) f)(v:Int) :
 Cl 258 #[Pt sb,Iv f,Iv v] w (Bl (.tuple #[Iv (cofs d f v).1,Iv (cofs d f v).2]) w):=by
 have HA:=Hd (FD h hlt hk f hf);clear h hk hlt hf;unfold atV at HA;unfold cofs;cases hb:Aa d (f/2) with
 | none =>
   rw[hb] at HA;clear hb
   go_enter func258,ntmps258
   go_wp2_with fail;refine HA.o.mono ?_;rintro x w' ⟨rfl,hb⟩;have HB:=Hd hb;clear hb;go_wp2_with fail
   go_ret2
   exact⟨rfl,HB.o⟩
 | some b =>
   rw[hb] at HA;clear hb
   by_cases e:(b.v:Int)=v
   ·subst e;have HE:Hq ((if (b.v:Int)=b.v then (eflip b.lo (eneg f),eflip b.hi (eneg f)) else (f,f))=(eflip b.lo (eneg f),eflip b.hi (eneg f))):=by show _=_;rw[Vw rfl]
    go_enter func258,ntmps258
    go_wp2_with fail;refine HA.o.mono ?_;rintro x w' ⟨rfl,hb⟩;have HB:=Hd hb;clear hb;go_wp2_with fail
    go_ret2
    exact⟨by first|rfl|(rw[HE.o];rfl),HB.o⟩
   ·have HE:Hq ((if (b.v:Int)=v then (eflip b.lo (eneg f),eflip b.hi (eneg f)) else (f,f))=(f,f)):=by show _=_;rw[Vs e]
    have H1:((b.v:Int) == v)=false:=by simpa using e
    go_enter func258,ntmps258
    go_wp2_with fail;refine HA.o.mono ?_;rintro x w' ⟨rfl,hb⟩;have HB:=Hd hb;clear hb;go_wp2_with fail
    go_ret2
    exact⟨by first|rfl|(rw[HE.o];rfl),HB.o⟩
def Bd (d:Ae)(k:Nat):Ae:={ d with vars:=(d.vars.set k (d.vars.getD (k+1) 0)).set (k+1) (d.vars.getD k 0),level:=(d.level.set (d.vars.getD k 0) (k+1)).set (d.vars.getD (k+1) 0) k }
theorem FZ:(prog.info? 3).map (fun i=>i.size)=some 1:=by kernel_rfl
theorem Ei {l:List Nat}(hk:k<l.length):(l.map nat64)[k]?=some (Iv (l.getD k 0:Nat)):=by
 rw[WP,VA hk];simp[nat64,List.getD,hk]
abbrev Xf:=@IntWalk.i64_in
theorem Rp {o:Own}{s:A4}(h:Ao o w sb d s)(k:Nat)(hk:k+1<d.vars.length)(hl:d.vars.length<=64)(ha:d.vars.getD k 0<d.level.length)(hb:d.vars.getD (k+1) 0<d.level.length) :
 Cl 220 #[Pt s.lb,Iv k] w fun x w'=>x=.returned (.tuple #[])/\Ao o w' sb (Bd d k) s/\Chg Al o o w w':=by
 obtain⟨d0,d1,_⟩:=cells2 h.lev;obtain⟨gv,cv,g5,g2,_⟩:=h.vars.shape (by omega);obtain⟨gl,cl,g6,g3,_⟩:=h.level.shape (by omega);have ge:=h.len;have r1:=h.vars;have r2:=h.level;rw[g5] at r1 d0;rw[g6] at r2 d1;have a0:=r1.cell k (by simp;omega);have a1:=r1.cell (k+1) (by simp;omega);rw[Ei (by omega)] at a0;rw[Ei hk] at a1;obtain⟨A,hA⟩:=Ex (d.vars.getD k 0);obtain⟨B,hB⟩:=Ex (d.vars.getD (k+1) 0);rw[<- hA] at a0 ha;rw[<- hB] at a1 hb;have b0:=r2.cell A (by simpa using ha);have b1:=r2.cell B (by simpa using hb);rw[Ei ha] at b0;rw[Ei hb] at b1;have fv:=r1.frozen;have fl:=r2.frozen;have go:(k:Int)<d.vars.length:=by omega
 have gn:(k:Int)+1<d.vars.length:=by omega
 have nvl:gv≠s.lb:=fun e=>by have:=h.ownl;rw[<- e,g2] at this;cases this
 have nll:gl≠s.lb:=fun e=>by have:=h.ownl;rw[<- e,g3] at this;cases this
 have nvg:gv≠gl:=fun e=>by rw[e,g3] at g2;cases g2
 have nvs:gv≠sb:=fun e=>by have:=h.own;rw[<- e,g2] at this;cases this
 have nls:gl≠sb:=fun e=>by have:=h.own;rw[<- e,g3] at this;cases this
 obtain⟨LA,ga⟩:∃ L,L=d.level.getD A 0:=⟨_,rfl⟩;obtain⟨LB,g9⟩:∃ L,L=d.level.getD B 0:=⟨_,rfl⟩;have gf:Hq (∀ w1 w2:Wd,w1.heap=w.heap->w1.os=w.os->w1.tape=w.tape->w1.output=w.output->w2=((((w1.setCell (Aw gv k) (Iv B)).setCell (Aw gv (k+1)) (Iv A)).setCell (Aw gl A) (Iv (k+1:Nat))).setCell (Aw gl B) (Iv k))->Ao o w2 sb (Bd d k) s/\Chg Al o o w w2):=by
  refine Hd ?_;rintro w1 w2 e1 e2 e3 e4 rfl;have gk:w1.heap.size=w.heap.size:=by rw[e1]
  have gg:Bw w w1:=⟨e2,e3,e4,by omega,fun k _=>by rw[e1]⟩;have gh:∀ g,g≠gv->g≠gl->((((w1.setCell (Aw gv k) (Iv B)).setCell (Aw gv (k+1)) (Iv A)).setCell (Aw gl A) (Iv (k+1:Nat))).setCell (Aw gl B) (Iv k)).heap[g]?=w.heap[g]?:=fun g n1 n2=>by
   rw[Ay n2,Ay n2,Ay n1,Ay n1,e1]
  have k1:∀ {g r},o g=some r->r ≠ .vars->r ≠ .level->((((w1.setCell (Aw gv k) (Iv B)).setCell (Aw gv (k+1)) (Iv A)).setCell (Aw gl A) (Iv (k+1:Nat))).setCell (Aw gl B) (Iv k)).heap[g]?=w.heap[g]?:=fun hg n1 n2=>gh _ (by rintro rfl;rw[g2] at hg;cases hg;exact n1 rfl) (by rintro rfl;rw[g3] at hg;cases hg;exact n2 rfl)
  have g7:=h.vars.keep (w':=w1) (fun g _=>by rw[e1]) (fun _ h=>h);rw[g5] at g7;have gc:=((((g7.stored k (Iv B)).stored (k+1) (Iv A)).setCell_other (p:=Aw gl A) (by rw[g3];simp) (Iv (k+1:Nat))).setCell_other (p:=Aw gl B) (by rw[g3];simp) (Iv k));have g8:=h.level.keep (w':=w1) (fun g _=>by rw[e1]) (fun _ h=>h);rw[g6] at g8;have gd:=(((g8.setCell_other (p:=Aw gv k) (by rw[g2];simp) (Iv B)).setCell_other (p:=(Aw gv (k+1))) (by rw[g2];simp) (Iv A)).stored A (Iv (k+1:Nat))).stored B (Iv k)
  refine⟨⟨h.own,h.ownl,(k1 h.own (by simp) (by simp)).trans h.blk,(k1 h.ownl (by simp) (by simp)).trans h.lev,?_,?_,h.pool.keep (fun g r hg hr=>k1 hg (by rintro rfl;simp at hr) (by rintro rfl;simp at hr)) (fun _ _ h=>h),h.tabs.keep (fun g hg=>k1 hg (by simp) (by simp)) (fun _ h=>h),
   fun v hv=>(h.tab v hv).keep (fun g r hg hr=>k1 hg (by rintro rfl;simp at hr) (by rintro rfl;simp at hr)) (fun _ _ h=>h),h.counts.keep (fun g hg=>k1 hg (by simp) (by simp)) (fun _ h=>h),by simp[Bd,h.len],by simp[Bd,h.tlen]⟩,?_⟩
  . rw[g5];simp only[Bd,VQ,X9,<- hA,<- hB];exact gc
  . rw[g6];simp only[Bd,VQ,X9,<- hA,<- hB];exact gd
  . exact((((Chg.of_below gg Al o).setCell (p:=Aw gv k) g2 (by simp[Al]) _).setCell (p:=(Aw gv (k+1))) g2 (by simp[Al]) _).setCell (p:=Aw gl A) g3 (by simp[Al]) _).setCell (p:=Aw gl B) g3 (by simp[Al]) _
 rw[<- ga] at b0;rw[<- g9] at b1;have gq:(A:Int)<d.level.length:=by omega
 have gp:(B:Int)<d.level.length:=by omega
 have gr:=Hd r1;have gt:=Hd r2;have gj:IntKind.i64.wrap ((k:Int)+1)=((k+1:Nat):Int):=by rw[Xf _ (by omega)];rfl
 have gm:((k+1:Nat):Int)<d.vars.length:=by omega
 clear h g5 g6 g2 g3 hA hB ga g9 r1 r2 ge
 go_enter func220,ntmps220
 go_upto_region 0 with fail
 go_quiet (fail)
 go_upto_region 1 with fail;refine AJ (fun W:Wd=>W.cell? (Av s.lb)=some (.slice (some (Av gv)) d.vars.length cv)/\True) true 16 [(0,false),(1,false),(2,false),(3,false),(4,false),(5,false),(6,false),(7,false),(8,false),(9,false),(10,false),(11,false),(12,false),(13,false),(14,true),(15,false),(16,true)] (by kernel_rfl) (by kernel_rfl) ⟨d0,trivial⟩ ?_;simp only[planned,AH]
 iterate 14
  refine Aq rfl ?_;apply Exists.intro;refine⟨fun w' hw=>?_,?_⟩
  . obtain⟨h1,_⟩:=hw;go_simp;rfl
  simp only[Ab]
 refine GH (w':=(w.drewN nq).drew.setCell (Aw gv k) (Iv B)) rfl rfl (DO (w:=(w.drewN nq).drew) FZ a0 (fv _) rfl rfl) ⟨BP (w:=(w.drewN nq).drew) d0 (.inl nvl),trivial⟩ ?_;simp only[Ab]
 iterate 1
  refine Aq rfl ?_;apply Exists.intro;refine⟨fun w' hw=>?_,?_⟩
  . obtain⟨h1,_⟩:=hw;go_simp;rfl
  simp only[Ab]
 refine EA (w':=((w.drewN nq).drew.setCell (Aw gv k) (Iv B)).setCell (Aw gv (k+1)) (Iv A)) rfl rfl (DO FZ (BP (w:=(w.drewN nq).drew) a1 (.inr (by omega))) ((Xn _ _ _ _).trans (fv _)) rfl rfl) ?_;simp only[Ab];obtain⟨w4,g4⟩:=Ex (((w.drewN nq).drew.setCell (Aw gv k) (Iv B)).setCell (Aw gv (k+1)) (Iv A));have e1:w4.cell? (Aw s.lb 1)=some (.slice (some (Av gl)) d.level.length cl):=by rw[g4];exact BP (BP (w:=(w.drewN nq).drew) d1 (.inl nvl)) (.inl nvl)
 have g0:w4.cell? (Aw gl A)=some (Iv LA):=by rw[g4];exact BP (BP (w:=(w.drewN nq).drew) b0 (.inl nvg)) (.inl nvg)
 have g1:w4.cell? (Aw gl B)=some (Iv LB):=by rw[g4];exact BP (BP (w:=(w.drewN nq).drew) b1 (.inl nvg)) (.inl nvg)
 have fl4:∀ j,w4.frozen? (Aw gl j)=false:=fun j=>by rw[g4];exact(Xn _ _ _ _).trans ((Xn _ _ _ _).trans (fl j))
 have gi:=Hd g4;rw[<- g4];clear g4 a0 a1 b0 b1 d0 d1 fv fl;go_upto_region 2 with fail;refine AJ (fun W:Wd=>W.cell? (Aw s.lb 1)=some (.slice (some (Av gl)) d.level.length cl)/\True) true 16 [(0,false),(1,false),(2,false),(3,false),(4,false),(5,false),(6,false),(7,false),(8,false),(9,false),(10,false),(11,false),(12,false),(13,false),(14,true),(15,false),(16,true)] (by kernel_rfl) (by kernel_rfl) ⟨e1,trivial⟩ ?_;simp only[planned,AH]
 iterate 14
  refine Aq rfl ?_;apply Exists.intro;refine⟨fun w' hw=>?_,?_⟩
  . obtain⟨h1,_⟩:=hw;go_simp;rfl
  simp only[Ab]
 refine GH (w':=w4.drew.setCell (Aw gl A) (Iv (k+1:Nat))) rfl rfl (DO (w:=w4.drew) FZ g0 (fl4 _) rfl rfl) ⟨BP (w:=w4.drew) e1 (.inl nll),trivial⟩ ?_;simp only[Ab]
 iterate 1
  refine Aq rfl ?_;apply Exists.intro;refine⟨fun w' hw=>?_,?_⟩
  . obtain⟨h1,_⟩:=hw;go_simp;rfl
  simp only[Ab]
 have g1':∃ u,(w4.drew.setCell (Aw gl A) (Iv (k+1:Nat))).cell? (Aw gl B)=some u:=AX (w:=w4.drew) g1;obtain⟨u,g1'⟩:=g1';refine EA (w':=(w4.drew.setCell (Aw gl A) (Iv (k+1:Nat))).setCell (Aw gl B) (Iv k)) rfl rfl (DO FZ g1' ((Xn _ _ _ _).trans (fl4 _)) rfl rfl) ?_;simp only[Ab];go_wp2_with fail;go_end0;obtain⟨q1,q2⟩:=gf.o ((w.drewN nq).drew.drew) ((w4.drew.setCell (Aw gl A) (Iv (k+1:Nat))).setCell (Aw gl B) (Iv k)) rfl rfl rfl rfl (by rw[gi.o];rfl);exact⟨rfl,q1,q2⟩
end Go.Proofs.YtkidaindpahefaaGreat
