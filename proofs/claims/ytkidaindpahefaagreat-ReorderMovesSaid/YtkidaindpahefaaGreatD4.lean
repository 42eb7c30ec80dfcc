/- Several texts in one file: contracts of the program's functions and what follows from them. -/
import Derived.Test.YtkidaindpahefaaGreatD3
import Derived.Laws.Tables
import Derived.Ground.Names2Prog
import Derived.Shelf.Slices.Delete
import Derived.Shelf.Slices.Cells
import Derived.Shelf.Slices.Empties
import Derived.Test.YtkidaindpahefaaGreatProg
import Derived.Maps.RangeRun
import Derived.Shelf.SlSortCmp.WholeK
import Derived.Shelf.SlicesG.Cmp
import Derived.Shelf.SlGeneric
import Derived.Ground.SlsfProg
import Derived.Ground.SlgcProg
set_option linter.unusedSimpArgs false
set_option linter.unusedVariables false
set_option linter.unusedSectionVars false
set_option linter.unnecessarySimpa false
set_option maxRecDepth 100000
set_option maxHeartbeats 8000000
namespace Go.Proofs.YtkidaindpahefaaGreat
open Go.Proofs.Tryz
open Go.RowKit
section
variable {P:Program}{S:World->Prop}{Q:Exit->Act->World->Prop}{R:List PanicEntry->World->Prop}{m:Nat}
def PP (R:List PanicEntry->World->Prop)(Q:Exit->Act->World->Prop):Exit->Act->World->Prop
 | .panic c,a,w=>a.defers=[]/\R c w
 | e,a,w=>Q e a w
theorem Zuw (a:Act)(d:Option Nat)(v:Value):(a.put d v).defers=a.defers:=by cases d<;>rfl
theorem Yd5 (c:List PanicEntry)(a:Act)(d:Option Nat)(v:Value)(w:World)(h:PP R Q (.panic c) (a.put d v) w):PP R Q (.panic c) a w:=⟨(Zuw a d v).symm.trans h.1,h.2⟩
theorem Yba {s:Code}{a:Act}{w:World}(hR:∀ c (a:Act) w,a.defers=[]->R c w->Q (.panic c) a w)(h:s.wp P (PP R Q) a w):s.wp P Q a w :=
 Code.wp_mono (fun e a w h=>by cases e<;>first|exact h|exact hR _ _ _ h.1 h.2) h
structure Zna (P:Program)(l:List Oper)(Q:Exit->Act->World->Prop)(R:List PanicEntry->World->Prop)(S:World->Prop)(m f:Nat)(L:Array Bool)(a:Act)(w:World):Prop where
 goes:Closed l.toArray L->S w->Zlm P l.toArray (PP R Q) S m f L a w
theorem Zgs {id:Nat}{a:Act}{w:World}{l:List Oper}(S:World->Prop)(R:List PanicEntry->World->Prop)(m:Nat)(hR:∀ c (a:Act) w,a.defers=[]->R c w->Q (.panic c) a w)(hm:P.follows .mixedOrders=true)(hS:S w.drew)
 (h:Zna P l Q R S m l.length (Array.replicate l.toArray.size false) a w.drew):(Code.region id l.toArray true).wp P Q a w :=
 Yba hR (wp_region_any hm (Zg9 _ _ _ _ (h.goes (Zf8 _) hS)))
theorem Zue {l:List Oper}{f:Nat}{L:Array Bool}{a:Act}{w:World}(i:Nat)(o:Oper)(v:Value)(hi:l[i]?=some o)
 (hB:(Region.noSelect l.toArray&&(Region.ready .any l.toArray L).contains i&&Region.free .any l.toArray L i&&(decide (l.toArray.size<=m)||reaches l.toArray l.toArray.size i m))=true)
 (hy:∀ w,S w->YieldsIf P l.toArray S o v a) (h:Zna P l Q R S m f (L.setIfInBounds i true) (a.put o.dst v) w):Zna P l Q R S m (f+1) L a w:=by
 refine⟨fun hc hS=>?_⟩;simp only[Bool.and_eq_true] at hB;obtain⟨⟨⟨hs,hr⟩,hf⟩,hm⟩:=hB;have g1:l.toArray[i]?=some o:=by simpa using hi
 have g0:i∈Region.ready .any l.toArray L:=by simpa using hr
 exact Zgr g1 hs Yd5 hm f L a w hc (Region.free_spec g1 hf) g0 (hy w hS) hS (h.goes (hc.set g0) hS)
theorem Zcb {l:List Oper}{f:Nat}{L:Array Bool}{a:Act}{w:World}(i:Nat){o:Oper}(hi:l[i]?=some o)(hg:o.guard=none)
 (hB:(Region.noSelect l.toArray&&(Region.ready .any l.toArray L).contains i&&Region.free .any l.toArray L i&&(decide (l.toArray.size<=m)||reaches l.toArray l.toArray.size i m))=true)
 (h:∃ v,(∀ w,S w->(execOp a.eval o).run P w=.ok (.value v) w)/\Zna P l Q R S m f (L.setIfInBounds i true) (a.put o.dst v) w):Zna P l Q R S m (f+1) L a w:=by
 obtain⟨v,h1,h2⟩:=h;exact Zue i o v hi hB (fun w _=>.inl ⟨by simp[Region.wanted,hg],h1⟩) h2
theorem Zdw {l:List Oper}{f:Nat}{L:Array Bool}{a:Act}{w:World}(is:List Nat)(hr:(decide (Region.ready .any l.toArray L=is) && !is.isEmpty)=true)
 (h:∀ i∈is,S w->∀ o,l[i]?=some o->Region.wanted o (yielded l.toArray a.tmps)=true/\o.wp P a w (fun a' w'=>S w'/\Zna P l Q R S m f (L.setIfInBounds i true) a' w') (PP R Q)):Zna P l Q R S m (f+1) L a w:=by
 refine⟨fun hc hS=>?_⟩;simp only[Bool.and_eq_true,decide_eq_true_eq] at hr;obtain⟨hr,g1⟩:=hr;refine⟨fun h0=>(by rw[h0] at hr;subst hr;simp at g1),fun i hi=>?_⟩;have g2:i∈is:=by rw[<- hr];exact hi
 obtain⟨_,o,ho,_⟩:=mem_ready.1 hi;obtain⟨hw,g0⟩:=h i g2 hS o (by simpa using ho);unfold wpOp;rw[ho];simp only[hw,if_true];left;refine Oper.wp_mono ?_ g0;intro a' w' ⟨h1,h2⟩;exact⟨.inr h1,h2.goes (hc.set hi) h1⟩
theorem Zpr {l:List Oper}{L:Array Bool}{a:Act}{w:World}(hr:(Region.ready .any l.toArray L).isEmpty=true)(h:Q .normal a w):Zna P l Q R S m 0 L a w :=
 ⟨fun _ _=>⟨by simpa [List.isEmpty_iff] using hr,h⟩⟩
end
open Go.RowKit
theorem Zmv {P:Program}{o:Oper}{a:Act}{w:World}{K:Act->World->Prop}{Q:Exit->Act->World->Prop}{f:FuncId}{args:Array Value}{R:Value->World->Prop}{R2:List PanicEntry->World->Prop}(he:(execOp a.eval o).run P w=.ok (.enter f args) w)
 (hc:Calls P f args w fun e w'=>(∃ v,e=.returned v/\R v w')\/(∃ ch,e=.panicked ch/\R2 ch w')) (h:∀ v w',R v w'->K (a.put o.dst v) w') (h2:∀ ch w',R2 ch w'->Q (.panic ch) a w'):o.wp P a w K Q:=by
 unfold Oper.wp;simp only[he,Oper.upon];refine hc.mono fun e w' hh=>?_
 rcases hh with ⟨v,h1,h3⟩|⟨ch,h1,h3⟩
 . subst h1;exact h v w' h3
 . subst h1;exact h2 ch w' h3
abbrev C3 (bf bg bh:Nat):Nat->Prop:=fun k=>k=bf\/k=bg\/k=bh
structure B3 (bf bg bh:Nat)(kf kg kh:Int)(W:World):Prop where
 f:W.cell? ⟨bf,0,none⟩=some (.int .i64 kf)
 g:W.cell? ⟨bg,0,none⟩=some (.int .i64 kg)
 h:W.cell? ⟨bh,0,none⟩=some (.int .i64 kh)
theorem B3.keep {bf bg bh:Nat}{kf kg kh:Int}(W W':World)(h:B3 bf bg bh kf kg kh W)(hk:∀ c,C3 bf bg bh c->W'.heap[c]?=W.heap[c]?):B3 bf bg bh kf kg kh W' :=
 ⟨(World.cell?_of_block (w:=W) (a:=⟨bf,0,none⟩) (hk _ (.inl rfl))).trans h.f,(World.cell?_of_block (w:=W) (a:=⟨bg,0,none⟩) (hk _ (.inr (.inl rfl)))).trans h.g,(World.cell?_of_block (w:=W) (a:=⟨bh,0,none⟩) (hk _ (.inr (.inr rfl)))).trans h.h⟩
def Zed (F G H:BF):BF:=fun ρ=>iteB (F ρ) (G ρ) (H ρ)
def SatX (K:Law)(n:Nat)(Od:List Nat->Prop)(room:Nat)(w0:World)(mb:Nat)(fs:List (Int×BF))(nx:Int)(m:ManD):Prop:=∃ W o V,SatE K n Od room w0 mb fs nx W o m V
def Zq5 (lim:Option Nat)(k:Nat)(m:ManD):Prop:=∀ M,lim=some M->m.d.pool.many<=M+k
def QF (ws0:List Ev)(lim:Option Nat)(k:Nat)(F:BF)(_:World)(m':ManD)(V':Nat->BF)(r:Nat):Prop:=ef V' r=F/\m'.waits <:+ ws0/\Zq5 lim k m'
def EF (A:ManD->Prop)(k:Nat)(ws0:List Ev)(er:Int)(m m':ManD):Prop:=er=7/\A m/\m'.d.pool.many=m'.d.pool.room/\m'.d.pool.many+1<=m.d.pool.many+k/\m'.waits <:+ ws0
abbrev Zot (ws0:List Ev)(m:ManD):Prop:=m.waits <:+ ws0
abbrev StL (ws0:List Ev)(lim:Option Nat)(m:ManD):Prop:=Zot ws0 m/\Zq5 lim 0 m
def EL (A:ManD->Prop)(k:Nat)(ws0:List Ev)(lim:Option Nat)(er:Int)(m m':ManD):Prop:=lim=none/\EF A k ws0 er m m'
def Ztp (ws0:List Ev)(lim:Option Nat)(k room:Nat):Prop:=∀ M,lim=some M->ws0=[]/\M+k<=room
theorem Zss {ws0:List Ev}{lim:Option Nat}{k room:Nat}{m m':ManD}(h:Ztp ws0 lim k room)(h1:Zq5 lim 0 m)(h2:m'.d.pool.room+1<=m.d.pool.many+k)(h3:m'.d.pool.room=room):lim=none:=by
 cases lim with
 | none=>rfl
 | some M =>
   have:=(h M rfl).2;have:=h1 M rfl;omega
theorem Ybp {ws0 ws:List Ev}{ev:Ev}{lim:Option Nat}{k k' room:Nat}{m:ManD}(h:Ztp ws0 lim k room)(h1:ev::ws <:+ ws0):Zq5 lim k' m:=fun M e=>by
 have:=(h M e).1;subst this;simp at h1
theorem Zzu {K:Law}(hK:Zc8 K){n:Nat}{Od:List Nat->Prop}{room:Nat}{w0:World}{mb:Nat}{fs:List (Int×BF)}{nx:Int}(ws0:List Ev)(lim:Option Nat)(hlim:Ztp ws0 lim (2^n-1) room)(hhap:∀ ev∈ws0,HapG K n Od room w0 mb fs nx ev)(bf bg bh:Nat){kf kg kh:Int}{F G H:BF}(hf:(kf,F)∈fs)(hg:(kg,G)∈fs)(hh:(kh,H)∈fs) :
 OpG K n Od room w0 mb fs nx (C3 bf bg bh) (B3 bf bg bh kf kg kh) (StL ws0 lim) 146 #[.pointer (some ⟨bf,0,none⟩),.pointer (some ⟨bg,0,none⟩),.pointer (some ⟨bh,0,none⟩)] (QF ws0 lim (2^n-1) (Zed F G H)) (EL (SatX K n Od room w0 mb fs nx) (2^n-1) ws0 lim):=by
 intro o W m V xb g0 hB hC g1 g7 hnx;obtain⟨f,hf,ef1⟩:=g0.find hf;obtain⟨g,hg,ef2⟩:=g0.find hg;obtain⟨h,hh,ef3⟩:=g0.find hh;have hk:=g0.ok;have g8:=g0.lt;have gd:=hk.store;obtain⟨s,hm⟩:=g0.is;have g2:Below W.heap.size W W.drew:=Zag W 1;have g6:=hm.below g8 g2;have ga:=g8.mono g2.size;have g5:Zf3 o W.drew xb mb:=⟨(g2.cell (p:=⟨xb,0,none⟩) (Zab g7.cell)).trans g7.cell,g7.own⟩;have df:=(g2.cell (p:=⟨bf,0,none⟩) (Zab hB.f)).trans hB.f;have dg:=(g2.cell (p:=⟨bg,0,none⟩) (Zab hB.g)).trans hB.g;have dh:=(g2.cell (p:=⟨bh,0,none⟩) (Zab hB.h)).trans hB.h;have of:=(hC bf (.inl rfl)).2;have og:=(hC bg (.inr (.inl rfl))).2;have oh:=(hC bh (.inr (.inr rfl))).2;have gj:=Hd (Zfn ⟨s,g6⟩ g5 hk.handles.nodup hf);have gi:=Hd (Zfn ⟨s,g6⟩ g5 hk.handles.nodup hg);have gh:=Hd (Zfn ⟨s,g6⟩ g5 hk.handles.nodup hh);have ge:=Hd (Ztw hK n o W.drew xb mb m V f g h ⟨s,g6⟩ ga g5 gd (hk.handles.ok _ hf) (hk.handles.ok _ hg) (hk.handles.ok _ hh) (by rw[g0.vars];omega));obtain⟨P,hP⟩:∃ P:Ending->World->Prop,P=fun e w'=>∃ (o':Own) (m':ManD) (V':Nat->BF),Zkd (C3 bf bg bh) K o W mb m V o' w' m' V'/\B3 bf bg bh kf kg kh w' /\
  ((∃ r:Nat,e=.returned (.int .i64 r)/\okE (Zaa m'.d) r/\QF ws0 lim (2^n-1) (Zed F G H) w' m' V' r) \/
   (∃ er:Int,e=Zdr er false ev0/\er≠0/\m'.waits=m.waits/\StL ws0 lim m'/\EL (SatX K n Od room w0 mb fs nx) (2^n-1) ws0 lim er m m') \/
   (∃ ev,e=Zdr 0 true ev/\m.waits=ev::m'.waits/\StE K n Od room w0 mb fs nx (StL ws0 lim) m'/\HapG K n Od room w0 mb fs nx ev)):=⟨_,rfl⟩
 have gf:Hid (∀ e w',Zvi K n o W.drew mb m V f g h e w'->(∃ v,e=.returned v/\(w'.cell? ⟨bf,0,none⟩=some (.int .i64 kf)/\w'.cell? ⟨bg,0,none⟩=some (.int .i64 kg)/\w'.cell? ⟨bh,0,none⟩=some (.int .i64 kh))/\P (.returned v) w')\/(∃ ch,e=.panicked ch/\P (.panicked ch) w')):=by
  refine Hd ?_;subst hP;rintro e w' ⟨o',m',V',st,g9⟩;have g3:B3 bf bg bh kf kg kh w':=⟨st.chg.cell df of,st.chg.cell dg og,st.chg.cell dh oh⟩;have stx:Zkd (C3 bf bg bh) K o W mb m V o' w' m' V':=Step.toX (K:=K) ⟨st.is,st.lt,(Chg.of_below g2 _ o).trans st.chg,st.ok,st.ext,st.hs,st.next⟩ _;have hp2:0<2^n:=Nat.pow_pos (by omega);rcases g9 with ⟨r,rfl,h1,h2,h3⟩|⟨rfl,h2,h3,h4⟩|⟨ev,rfl,h1⟩
  . refine .inl ⟨_,rfl,⟨g3.f,g3.g,g3.h⟩,o',m',V',stx,g3,.inl ⟨r,rfl,h1.okR,?_,by rw[h2];exact g1.1,fun M e=>by have:=g1.2 M e;omega⟩⟩;have e1:=(st.ext.ef (hk.handles.ok _ hf)).trans ef1;have e2:=(st.ext.ef (hk.handles.ok _ hg)).trans ef2;have e3:=(st.ext.ef (hk.handles.ok _ hh)).trans ef3;dsimp only at e1 e2 e3;funext ρ;rw[h1.val ρ,e1,e2,e3];rfl
  . have gc:lim=none:=Zss hlim g1.2 (by rw[<- h3];omega) (by rw[st.ext.room];exact g0.room);exact .inr ⟨_,rfl,o',m',V',stx,g3,.inr (.inl ⟨7,rfl,by omega,h2,⟨by unfold Zot;rw[h2];exact g1.1,by subst gc;exact fun M e=>by cases e⟩,gc,rfl,⟨_,_,_,g0⟩,h3,by omega,by rw[h2];exact g1.1⟩)⟩
  ·refine .inr ⟨_,rfl,o',m',V',stx,g3,.inr (.inr ⟨ev,rfl,h1,?_,?_⟩)⟩
   all_goals
    have g4:m.waits <:+ ws0:=g1.1;rw[h1] at g4
    first|exact fun _ _ _ _ _ e _ _=>⟨by unfold Zot;rw[e];exact(List.suffix_cons ev m'.waits).trans g4,Ybp hlim g4⟩|exact hhap ev (g4.subset (List.mem_cons_self ..))
 rw[<- hP];clear hm gd hk g7 hB hC g1 hnx hhap hlim hK g8 hf hg hh of og oh g6 ga g5 g2 g0 hP ef1 ef2 ef3
 go_enter func146,ntmps146
 go_upto_region 1 with fail;refine Zgs (fun W:World=>W.cell? ⟨bf,0,none⟩=some (.int .i64 kf)/\W.cell? ⟨bg,0,none⟩=some (.int .i64 kg)/\W.cell? ⟨bh,0,none⟩=some (.int .i64 kh)) (fun ch w'=>P (.panicked ch) w') 12 (fun c a w hd h=>⟨hd,h⟩) (by kernel_rfl) ⟨df,dg,dh⟩ ?_;refine Zcb 0 rfl rfl (by kernel_rfl) ?_;apply Exists.intro;refine⟨fun w' hw=>?_,?_⟩
 . obtain⟨q1,q2,q3⟩:=hw;go_simp;rfl
 simp only[Zai];refine Zcb 1 rfl rfl (by kernel_rfl) ?_;apply Exists.intro;refine⟨fun w' hw=>?_,?_⟩
 . obtain⟨q1,q2,q3⟩:=hw;go_simp;rfl
 simp only[Zai];refine Zcb 2 rfl rfl (by kernel_rfl) ?_;apply Exists.intro;refine⟨fun w' hw=>?_,?_⟩
 . obtain⟨q1,q2,q3⟩:=hw;go_simp;rfl
 simp only[Zai];refine Zcb 4 rfl rfl (by kernel_rfl) ?_;apply Exists.intro;refine⟨fun w' hw=>?_,?_⟩
 . obtain⟨q1,q2,q3⟩:=hw;go_simp;rfl
 simp only[Zai];refine Zcb 5 rfl rfl (by kernel_rfl) ?_;apply Exists.intro;refine⟨fun w' hw=>?_,?_⟩
 . obtain⟨q1,q2,q3⟩:=hw;go_simp;rfl
 simp only[Zai];refine Zcb 7 rfl rfl (by kernel_rfl) ?_;apply Exists.intro;refine⟨fun w' hw=>?_,?_⟩
 . obtain⟨q1,q2,q3⟩:=hw;go_simp;rfl
 simp only[Zai];refine Zcb 8 rfl rfl (by kernel_rfl) ?_;apply Exists.intro;refine⟨fun w' hw=>?_,?_⟩
 . obtain⟨q1,q2,q3⟩:=hw;go_simp;rfl
 simp only[Zai];refine Zdw [3] (by kernel_rfl) (fun i hi hS o ho=>?_);simp only[Zls] at hi;subst hi;simp only[Zkg] at ho;subst ho;refine⟨rfl,?_⟩;refine Zdo (v:=.int .i64 (f:Nat)) (R:=fun w'=>W.drew=w') (by go_simp) gj.out ?_;rintro w' rfl;refine⟨⟨df,dg,dh⟩,?_⟩;simp only[Zai];refine Zdw [6] (by kernel_rfl) (fun i hi hS o ho=>?_);simp only[Zls] at hi;subst hi;simp only[Zkg] at ho;subst ho;refine⟨rfl,?_⟩;refine Zdo (v:=.int .i64 (g:Nat)) (R:=fun w'=>W.drew=w') (by go_simp) gi.out ?_;rintro w' rfl;refine⟨⟨df,dg,dh⟩,?_⟩;simp only[Zai];refine Zdw [9] (by kernel_rfl) (fun i hi hS o ho=>?_);simp only[Zls] at hi;subst hi;simp only[Zkg] at ho;subst ho;refine⟨rfl,?_⟩;refine Zdo (v:=.int .i64 (h:Nat)) (R:=fun w'=>W.drew=w') (by go_simp) gh.out ?_;rintro w' rfl;refine⟨⟨df,dg,dh⟩,?_⟩;simp only[Zai];refine Zdw [10] (by kernel_rfl) (fun i hi hS o ho=>?_);simp only[Zls] at hi;subst hi;simp only[Zkg] at ho;subst ho;refine⟨rfl,?_⟩;refine Zmv (R:=fun v w'=>(w'.cell? ⟨bf,0,none⟩=some (.int .i64 kf)/\w'.cell? ⟨bg,0,none⟩=some (.int .i64 kg)/\w'.cell? ⟨bh,0,none⟩=some (.int .i64 kh))/\P (.returned v) w') (R2:=fun ch w'=>P (.panicked ch) w') (by go_simp) (ge.out.mono gf.out) ?_ ?_
 ·rintro v w' ⟨hS,g1⟩;refine⟨hS,?_⟩;have gg:=Hd g1;clear g1;simp only[Zai];refine Zcb 11 rfl rfl (by kernel_rfl) ?_;apply Exists.intro;refine⟨fun w' hw=>?_,?_⟩
  . go_simp;rfl
  simp only[Zai];refine Zpr (by kernel_rfl) ?_;clear hS df dg dh;go_wp2_with fail;exact gg.out
 . intro ch w' g1;exact⟨rfl,g1⟩
abbrev C1 (b:Nat):Nat->Prop:=fun k=>k=b
structure B1 (b:Nat)(v:Int)(W:World):Prop where
 c:W.cell? ⟨b,0,none⟩=some (.int .i64 v)
theorem B1.keep {b:Nat}{v:Int}(W W':World)(h:B1 b v W)(hk:∀ c,C1 b c->W'.heap[c]?=W.heap[c]?):B1 b v W':=⟨(World.cell?_of_block (w:=W) (a:=⟨b,0,none⟩) (hk _ rfl)).trans h.c⟩
theorem Ya7 {K:Law}(hK:Zc8 K){n:Nat}{Od:List Nat->Prop}{room:Nat}{w0:World}{mb:Nat}{fs:List (Int×BF)}{nx:Int}(ws0:List Ev)(lim:Option Nat)(hlim:Ztp ws0 lim 1 room)(hhap:∀ ev∈ws0,HapG K n Od room w0 mb fs nx ev)(v vb:Nat)(hv:v<n) :
 OpG K n Od room w0 mb fs nx (C1 vb) (B1 vb v) (StL ws0 lim) 144 #[.pointer (some ⟨vb,0,none⟩)] (QF ws0 lim 1 (varF v)) (EL (SatX K n Od room w0 mb fs nx) 1 ws0 lim):=by
 intro o W m V xb g1 hB hC g0 hx hnx;have hk:=g1.ok;have g9:=g1.lt;have g2:=hk.store;have o0:okE (Zaa m.d) 0:=.inl rfl;have o1:okE (Zaa m.d) 1:=.inl rfl;have g4:lvE m.d.vars.length (levN m.d) (Zaa m.d) 0=m.d.vars.length:=Zku g2 rfl;have gd:lvE m.d.vars.length (levN m.d) (Zaa m.d) 1=m.d.vars.length:=Zku g2 rfl;have g8:v<m.d.vars.length:=by rw[g1.vars];exact hv
 have gc:=g2.dag.lt v g8;have gf:=Hd (Zo4 hK g1.is g9 hx g2 v 1 0 o1 o0);have cvb:=hB.c;have ob:=(hC vb rfl).2;obtain⟨P,hP⟩:∃ P:Ending->World->Prop,P=fun e w'=>∃ (o':Own) (m':ManD) (V':Nat->BF),Zkd (C1 vb) K o W mb m V o' w' m' V'/\B1 vb v w' /\
  ((∃ r:Nat,e=.returned (.int .i64 r)/\okE (Zaa m'.d) r/\QF ws0 lim 1 (varF v) w' m' V' r) \/
   (∃ er:Int,e=Zdr er false ev0/\er≠0/\m'.waits=m.waits/\StL ws0 lim m'/\EL (SatX K n Od room w0 mb fs nx) 1 ws0 lim er m m') \/
   (∃ ev,e=Zdr 0 true ev/\m.waits=ev::m'.waits/\StE K n Od room w0 mb fs nx (StL ws0 lim) m'/\HapG K n Od room w0 mb fs nx ev)):=⟨_,rfl⟩
 have ga:Hid (∀ e w',Zhy K o W mb m V v 1 0 e w'->(∃ r:Nat,e=.returned (.int .i64 r)/\P (.returned (.int .i64 r)) w')\/(∃ er evt ev,e=Zdr er evt ev/\P (Zdr er evt ev) w')):=by
  refine Hd ?_;subst hP;rintro e w' ⟨o',m',V',st,g7⟩;have g5:B1 vb v w':=⟨st.chg.cell cvb ob⟩;have stx:Zkd (C1 vb) K o W mb m V o' w' m' V':=st.toX _;rcases g7 with ⟨ev,h1,_,_,_,_,rfl⟩|⟨h1,_,_,(⟨er,ge,hd,_,rfl⟩|⟨_,_,r,rfl,h2,h3,_,h5⟩)⟩
  ·refine .inr ⟨0,true,ev,rfl,o',m',V',stx,g5,.inr (.inr ⟨ev,rfl,h1,?_,?_⟩)⟩
   all_goals
    have g3:m.waits <:+ ws0:=g0.1;rw[h1] at g3
    first|exact fun _ _ _ _ _ e _ _=>⟨by unfold Zot;rw[e];exact(List.suffix_cons ev m'.waits).trans g3,Ybp hlim g3⟩|exact hhap ev (g3.subset (List.mem_cons_self ..))
  ·refine .inr ⟨er,false,ev0,rfl,o',m',V',stx,g5,.inr (.inl ?_)⟩;rcases ge with ⟨_,h⟩|⟨_,_,_,h⟩|⟨rfl,h⟩
   . exact(h ⟨by omega,by omega⟩).elim
   . simp only[Int.toNat_natCast] at h;omega
   . have g4:lim=none:=Zss (m':=m') hlim g0.2 (by rw[hd];omega) (by rw[st.ext.room];exact g1.room);exact⟨7,rfl,by omega,h1,⟨by unfold Zot;rw[h1];exact g0.1,by subst g4;exact fun M e=>by cases e⟩,g4,rfl,⟨_,_,_,g1⟩,by rw[hd];exact h,by rw[hd];omega,by rw[h1];exact g0.1⟩
  . refine .inl ⟨r,rfl,o',m',V',stx,g5,.inl ⟨r,rfl,h2,?_,by rw[h1];exact g0.1,fun M e=>by have:=g0.2 M e;omega⟩⟩;rw[h3];funext ρ;have a0:=Ziv g2.dag.one ρ;have a1:=Zmc g2.dag.one ρ;simp only[iteF,varF,Int.toNat_natCast,a0,a1];cases ρ v<;>rfl
 rw[<- hP];clear g2 o0 o1 g4 gd gc g8 hk hx hC hK hv g9 hB hnx g0 hP ob g1 hlim
 go_enter func144,ntmps144
 go_wp2_with fail;refine gf.out.mono ?_;intro e w' hp;rcases ga.out e w' hp with ⟨r,rfl,g0⟩|⟨er,evt,ev,rfl,g0⟩
 . have g6:=Hd g0;clear hp g0;go_wp2_with fail;exact g6.out
 . have g6:=Hd g0;clear hp g0;unfold Zdr;go_wp2_with fail;exact⟨rfl,g6.out⟩
def Zjd (K:Law)(n:Nat)(Od:List Nat->Prop)(room:Nat)(w0:World)(mb:Nat)(fs:List (Int×BF))(nx:Int)(ws0:List Ev)(lim:Option Nat)(k:Nat)(F:BF)(o:Own)(w:World)(x:Ending)(w':World):Prop :=
 ∃ o' m' V',ChgX NoB o o' w w'/\m'.waits <:+ ws0/\((x=.returned (.tuple #[.int .i64 nx,.int .i64 0])/\Zq5 lim k m'/\SatE K n Od room w0 mb (fs++[(nx,F)]) (nx+1) w' o' m' V') \/
  (x=.returned (.tuple #[.int .i64 0,.int .i64 7])/\lim=none/\SatE K n Od room w0 mb fs nx w' o' m' V'/\∃ m0,SatX K n Od room w0 mb fs nx m0/\m0.d.dead=0/\room+1<=m0.d.pool.many+k))
theorem StL.coll {ws0:List Ev}{lim:Option Nat}(m:ManD)(d:Zad)(h:StL ws0 lim m)(r:Za7 m.d d):StL ws0 lim { m with d:=d }:=⟨h.1,fun M e=>by have:=h.2 M e;have:=r.many;show d.pool.many<=M+0;omega⟩
theorem Zp1 {K:Law}{n:Nat}{Od:List Nat->Prop}{room:Nat}{w0:World}{mb:Nat}{fs:List (Int×BF)}{nx:Int}{ws0:List Ev}{lim:Option Nat}{k:Nat}{F:BF}{o:Own}{w w1 w':World}{C:Nat->Prop}{B:World->Prop}{x:Ending}(hb:Below w.heap.size w w1)(hC:∀ c,C c->w.heap.size<=c)
 (h:Zvg K n Od room w0 mb fs nx C B (QF ws0 lim k F) (EL (SatX K n Od room w0 mb fs nx) k ws0 lim) o w1 x w'):Zjd K n Od room w0 mb fs nx ws0 lim k F o w x w':=by
 obtain⟨o',m',V',_,hc,g0⟩:=h;have g1:ChgX NoB o o' w w':=(ChgX.of_below hb o NoB).trans hc (fun k hk e=>by have:=hC k e;omega);rcases g0 with ⟨r,m1,rfl,hs,⟨q1,q2,q4⟩,_,_,_,_,q5,q3,_⟩|⟨er,m0,_,rfl,hs,⟨g3,rfl,g2,h1,h2,h3⟩,h7⟩
 . exact⟨o',m',V',g1,by rw[q3];exact q2,.inl ⟨rfl,fun M e=>by rw[q5];exact q4 M e,by rw[<- q1];exact hs⟩⟩
 . refine⟨o',m',V',g1,h3,.inr ⟨rfl,g3,hs,m0,g2,h7 rfl,?_⟩⟩;have:=hs.room;omega
theorem Zmm {K:Law}(hK:Zc8 K){n:Nat}{Od:List Nat->Prop}{room:Nat}{w0:World}{mb:Nat}{fs:List (Int×BF)}{nx:Int}{w:World}{o:Own}{m:ManD}{V:Nat->BF}(h:SatE K n Od room w0 mb fs nx w o m V)(ws0:List Ev)(hws:m.waits <:+ ws0)(lim:Option Nat)(hlim:Ztp ws0 lim (2^n-1) room)(hl0:Zq5 lim 0 m)(hhap:∀ ev∈ws0,HapG K n Od room w0 mb fs nx ev)(hn:nx<1099511627776)
 {kf kg kh:Int} {F G H:BF} (hf:(kf,F)∈fs) (hg:(kg,G)∈fs) (hh:(kh,H)∈fs) :
 Calls prog 94 #[.pointer (some ⟨mb,0,none⟩),.int .i64 kf,.int .i64 kg,.int .i64 kh] w (Zjd K n Od room w0 mb fs nx ws0 lim (2^n-1) (Zed F G H) o w):=by
 have g1:∀ (fn:Fn) (first cap:Array Value) (w:World),(Instr.makeFunc fn first cap).run prog w=.ok (.func fn first cap) w:=fun _ _ _ _=>rfl
 obtain⟨hb,cf,cg,ch⟩:=Ycc kf kg kh w;have hw0:=h.chg.size;have hz:(box3 kf kg kh w).heap.size=w.heap.size+3:=by simp[box3]
 have g0:Hid (Calls prog 143 #[.pointer (some ⟨mb,0,none⟩),.func (.func 146) #[] #[.pointer (some ⟨w.heap.size,0,none⟩),.pointer (some ⟨w.heap.size+1,0,none⟩),.pointer (some ⟨w.heap.size+1+1,0,none⟩)]] (box3 kf kg kh w) (Zjd K n Od room w0 mb fs nx ws0 lim (2^n-1) (Zed F G H) o w)):=by
  refine Hd ?_;refine(Ybk hK B3.keep (fun _ _ _ _ _ h _=>h) StL.coll ?_ Zrh (Zzu hK ws0 lim hlim hhap w.heap.size (w.heap.size+1) (w.heap.size+1+1) hf hg hh) (h.below hb) ⟨cf,cg,ch⟩ ?_ ⟨hws,hl0⟩ hn).mono fun x w' hp=>Zp1 hb ?_ hp
  . rintro c (rfl|rfl|rfl)<;>omega
  . rintro c (rfl|rfl|rfl)<;>exact⟨by omega,h.lt.none (by omega)⟩
  . rintro c (rfl|rfl|rfl)<;>omega
 have HW:Hid (_=box3 kf kg kh w):=Hd (show ((w.alloc (.cells #[.int .i64 kf] 3)).alloc (.cells #[.int .i64 kg] 3)).alloc (.cells #[.int .i64 kh] 3)=box3 kf kg kh w from rfl);clear h hK hws hhap hn hf hg hh hb cf cg ch hw0 hz hlim hl0;obtain⟨P,hP⟩:∃ P,P=Zjd K n Od room w0 mb fs nx ws0 lim (2^n-1) (Zed F G H) o w:=⟨_,rfl⟩;rw[<- hP] at g0 ⊢;have HT:Hid (∀ x w',P x w'->∃ a b,x=.returned (.tuple #[.int .i64 a,.int .i64 b])):=by
  refine Hd ?_;subst hP;rintro x w' ⟨_,_,_,_,_,(⟨rfl,_⟩|⟨rfl,_⟩)⟩
  . exact⟨_,_,rfl⟩
  . exact⟨_,_,rfl⟩
 clear hP
 go_enter func94,ntmps94
 go_wp2_with fail;rw[HW.out];refine g0.out.mono ?_;intro x w' hd;obtain⟨a,b,rfl⟩:=HT.out x w' hd;have HD:=Hd hd;clear hd;go_wp2_with fail;exact HD.out
theorem Zmo {K:Law}(hK:Zc8 K){n:Nat}{Od:List Nat->Prop}{room:Nat}{w0:World}{mb:Nat}{fs:List (Int×BF)}{nx:Int}{w:World}{o:Own}{m:ManD}{V:Nat->BF}(h:SatE K n Od room w0 mb fs nx w o m V)(ws0:List Ev)(hws:m.waits <:+ ws0)(lim:Option Nat)(hlim:Ztp ws0 lim 1 room)(hl0:Zq5 lim 0 m)(hhap:∀ ev∈ws0,HapG K n Od room w0 mb fs nx ev)(hn:nx<1099511627776)
 (v:Nat) (hv:v<n) :
 Calls prog 93 #[.pointer (some ⟨mb,0,none⟩),.int .i64 v] w (Zjd K n Od room w0 mb fs nx ws0 lim 1 (varF v) o w):=by
 have gc:∀ (fn:Fn) (first cap:Array Value) (w:World),(Instr.makeFunc fn first cap).run prog w=.ok (.func fn first cap) w:=fun _ _ _ _=>rfl
 obtain⟨w1,g0⟩:∃ w1,w1=w.alloc (.cells #[.int .i64 (v:Nat)] 3):=⟨_,rfl⟩;have g1:Below w.heap.size w w1:=by rw[g0];exact Zae w _
 have g5:w1.heap[w.heap.size]?=some (.cells #[.int .i64 (v:Nat)] 3 (0,0)):=by rw[g0];exact heap_alloc_new w _
 have cvb:w1.cell? ⟨w.heap.size,0,none⟩=some (.int .i64 (v:Nat)):=cell1 g5;have g8:w1.heap.size=w.heap.size+1:=by rw[g0];simp
 have hw0:=h.chg.size;obtain⟨s,g6⟩:=h.is;have g3:=g6.below h.lt g1;obtain⟨c0,c1,c2,c3,c4,c5,f0⟩:=cells6 g3.blk;obtain⟨ss,g2⟩:=g3.store;have g7:Zf1 m.d v=(levN m.d v:Nat):=Zps (by rw[g2.len,h.vars];exact hv);have g9:Hid (∀ n,Calls prog 142 #[.pointer (some ⟨s.sb,0,none⟩),.int .i64 (v:Nat)] (w1.drewN n) fun x w'=>x=.returned (.int .i64 (levN m.d v:Nat))/\w1.drewN n=w'):=by
  refine Hd fun n=>?_
  have:=Zhu (g2.below (h.lt.mono g1.size) (Zag w1 n)) v (by rw[g2.len];have:=h.ok.store.small;omega);rw[g7] at this;exact this
 obtain⟨P,hP⟩:∃ P,P=Zjd K n Od room w0 mb fs nx ws0 lim 1 (varF v) o w:=⟨_,rfl⟩;have ga:Hid (∀ q,Calls prog 143 #[.pointer (some ⟨mb,0,none⟩),.func (.func 144) #[] #[.pointer (some ⟨w.heap.size,0,none⟩)]] (w1.drewN q) P):=by
  refine Hd fun q=>?_
  rw[hP];have g4:Below w.heap.size w (w1.drewN q):=g1.trans ((Zag w1 q).mono g1.size);refine(Ybk hK B1.keep (fun _ _ _ _ _ h _=>h) StL.coll ?_ Zri (Ya7 hK ws0 lim hlim hhap v w.heap.size hv) (h.below g4) ⟨cvb⟩ ?_ ⟨hws,hl0⟩ hn).mono fun x w' hp=>Zp1 g4 ?_ hp
  . rintro c rfl;omega
  . rintro c rfl;exact⟨by have:=g4.size;show w.heap.size<w1.heap.size;omega,h.lt.none (by omega)⟩
  . rintro c rfl;omega
 have HT:Hid (∀ x w',P x w'->∃ a b,x=.returned (.tuple #[.int .i64 a,.int .i64 b])):=by
  refine Hd ?_;rw[hP];rintro x w' ⟨_,_,_,_,_,(⟨rfl,_⟩|⟨rfl,_⟩)⟩
  . exact⟨_,_,rfl⟩
  . exact⟨_,_,rfl⟩
 rw[<- hP];have HW:Hid (w.alloc (.cells #[.int .i64 (v:Nat)] 3)=w1):=Hd g0.symm;clear g3 g2 g7 g6 g1 g5 g0 hK hn hv hws hhap h hw0 g8 hP hlim hl0
 go_enter func93,ntmps93
 go_upto_region 3 with fail;rw[HW.out]
 go_quiet (with_reducible exact Zbd (g9.out _))
 go_wp2_with fail;refine(ga.out _).mono ?_;intro x w' hd;obtain⟨a,b,rfl⟩:=HT.out x w' hd;have HD:=Hd hd;clear hd;go_wp2_with fail;exact HD.out
open Go.RowKit
section
variable {P:Program}{S:World->Prop}{Q:Exit->Act->World->Prop}{R:List PanicEntry->World->Prop}
def Nx (_:List Nat)(P:Program)(l:List Oper)(Q:Exit->Act->World->Prop)(R:List PanicEntry->World->Prop)(S:World->Prop)(f:Nat)(L:Array Bool)(a:Act)(w:World):Prop:=Zna P l Q R S l.length f L a w
theorem Zj2 (pl:List Nat){id:Nat}{a:Act}{w:World}{l:List Oper}(S:World->Prop)(R:List PanicEntry->World->Prop)(hR:∀ c (a:Act) w,a.defers=[]->R c w->Q (.panic c) a w)(hm:P.follows .mixedOrders=true)(hS:S w.drew)
 (h:Nx pl P l Q R S l.length (Array.replicate l.toArray.size false) a w.drew):(Code.region id l.toArray true).wp P Q a w:=Zgs S R l.length hR hm hS h
theorem Ziy {i:Nat}{pl:List Nat}{l:List Oper}{f:Nat}{L:Array Bool}{a:Act}{w:World}{o:Oper}(hi:l[i]?=some o)(hg:o.guard=none)
 (hB:(Region.noSelect l.toArray&&(Region.ready .any l.toArray L).contains i&&Region.free .any l.toArray L i)=true)
 (h:∃ v,(∀ w,S w->(execOp a.eval o).run P w=.ok (.value v) w)/\Nx pl P l Q R S f (L.setIfInBounds i true) (a.put o.dst v) w):Nx (i::pl) P l Q R S (f+1) L a w :=
 Zcb _ hi hg (by rw[hB];simp) h
theorem Yc5 {i:Nat}{pl:List Nat}{l:List Oper}{f:Nat}{L:Array Bool}{a:Act}{w:World}{o:Oper}{g:FuncId}{args:Array Value}{R1:Value->World->Prop}(hi:l[i]?=some o)(hr:decide (Region.ready .any l.toArray L=[i])=true)
 (hg:Region.wanted o (yielded l.toArray a.tmps)=true) (hd:a.defers=[]) (he:(execOp a.eval o).run P w=.ok (.enter g args) w)
 (hc:Calls P g args w fun e w'=>(∃ v,e=.returned v/\S w'/\R1 v w')\/(∃ ch,e=.panicked ch/\R ch w'))
 (h:∀ v w',S w'->R1 v w'->Nx pl P l Q R S f (L.setIfInBounds i true) (a.put o.dst v) w'):Nx (i::pl) P l Q R S (f+1) L a w:=by
 refine Zdw [i] (by rw[Bool.and_eq_true];exact⟨hr,rfl⟩) fun j g1 hS o2 g0=>?_
 rw[List.mem_singleton] at g1;subst g1;rw[hi] at g0;cases g0;refine⟨hg,?_⟩;refine Zmv (R:=fun v w'=>S w'/\R1 v w') (R2:=R) he (hc.mono ?_) (fun v w' hh=>⟨hh.1,h v w' hh.1 hh.2⟩) (fun ch w' hh=>⟨hd,hh⟩);rintro e w' (⟨v,h1,h2⟩|hh)
 . exact .inl ⟨v,h1,h2⟩
 . exact .inr hh
theorem Zn0 {i:Nat}{pl:List Nat}{l:List Oper}{f:Nat}{L:Array Bool}{a:Act}{w:World}{o:Oper}{g:FuncId}{args:Array Value}{R1:Value->World->Prop}(hi:l[i]?=some o)(hr:decide (Region.ready .any l.toArray L=[i])=true)
 (hg:Region.wanted o (yielded l.toArray a.tmps)=true) (hd:a.defers=[]) (he:(execOp a.eval o).run P w=.ok (.enter g args) w)
 (hc:Calls P g args w fun e w'=>∃ v,e=.returned v/\R1 v w') (hS:∀ v w',R1 v w'->S w')
 (h:∀ v w',S w'->R1 v w'->Nx pl P l Q R S f (L.setIfInBounds i true) (a.put o.dst v) w'):Nx (i::pl) P l Q R S (f+1) L a w :=
 Yc5 hi hr hg hd he (hc.mono fun e w' ⟨v,h1,h2⟩=>.inl ⟨v,h1,hS v w' h2,h2⟩) h
theorem Zsx {i:Nat}{pl:List Nat}{l:List Oper}{f:Nat}{L:Array Bool}{a:Act}{w w':World}{o:Oper}{t:TypeId}{s x:Operand}(hi:l[i]?=some o)(hr:decide (Region.ready .any l.toArray L=[i])=true)
 (hg:Region.wanted o (yielded l.toArray a.tmps)=true) (ho:o.op=.store t s x) (hs:(Instr.storeAt t (a.eval s) (a.eval x)).run P w=.ok () w') (hS:S w')
 (h:Nx pl P l Q R S f (L.setIfInBounds i true) (a.put o.dst undef) w'):Nx (i::pl) P l Q R S (f+1) L a w:=by
 refine Zdw [i] (by rw[Bool.and_eq_true];exact⟨hr,rfl⟩) fun j g1 _ o2 g0=>?_
 rw[List.mem_singleton] at g1;subst g1;rw[hi] at g0;cases g0;exact⟨hg,Zmw ho hs ⟨hS,h⟩⟩
theorem Zsw {l:List Oper}{L:Array Bool}{a:Act}{w:World}(hr:(Region.ready .any l.toArray L).isEmpty=true)(h:Q .normal a w):Nx [] P l Q R S 0 L a w:=Zpr hr h
end
open Go.RowKit
theorem Zmf (args:Array Value)(w:World):(callFunc 150 args).run prog w=.ok (.enter 150 args) w:=enters_of func150 (by kernel_rfl) rfl args w
structure PuC where
 bn:Nat
 bo:Nat
 bm:Nat
 bp:Nat
def PuC.caps (c:PuC):Array Value:=#[.pointer (some ⟨c.bn,0,none⟩),.pointer (some ⟨c.bo,0,none⟩),.pointer (some ⟨c.bm,0,none⟩),.pointer (some ⟨c.bp,0,none⟩)]
def PuC.wr (c:PuC)(k:Nat):Prop:=k=c.bo\/k=c.bm
def rowV (L:List (List Int))(i:Nat):Int:=at0 (L.getD (i/4) []) (i%4)
structure PuS (c:PuC)(n:Nat)(L:List (List Int))(W:World):Prop where
 n:W.heap[c.bn]?=some (.cells #[.int .i64 (n:Nat)] 3 (0,0))
 o:∃ cs,W.heap[c.bo]?=some (.cells cs 131 (0,0))/\cs.size=96/\∀ i,i<96->cs[i]?=some (.int .i64 (rowV L i))
 m:W.heap[c.bm]?=some (.cells #[.int .i64 (L.length:Nat)] 3 (0,0))
 p:W.cell? ⟨c.bp,0,none⟩=some (.func (.func 150) #[] c.caps)
 ne:c.bo≠c.bn/\c.bo≠c.bm/\c.bo≠c.bp/\c.bm≠c.bn/\c.bm≠c.bp
section
variable {c:PuC}{n:Nat}{L:List (List Int)}{W W':World}
theorem PuS.below (h:PuS c n L W)(hb:Below W.heap.size W W'):PuS c n L W':=by
 obtain⟨cs,h1,h2,h3⟩:=h.o;exact⟨(hb.block _ (Array.getElem?_eq_some_iff.1 h.n).1).trans h.n,⟨cs,(hb.block _ (Array.getElem?_eq_some_iff.1 h1).1).trans h1,h2,h3⟩,(hb.block _ (Array.getElem?_eq_some_iff.1 h.m).1).trans h.m,(hb.cell (Zab h.p)).trans h.p,h.ne⟩
theorem PuS.other (h:PuS c n L W){D:Nat->Prop}(hw:Wr D W W')(hD:∀ k,D k->k≠c.bn/\k≠c.bo/\k≠c.bm/\k≠c.bp):PuS c n L W':=by
 obtain⟨cs,h1,h2,h3⟩:=h.o;have hk:∀ {q:Nat},q<W.heap.size->(∀ k,D k->k≠q)->W'.heap[q]?=W.heap[q]?:=fun hq g0=>hw.keep _ hq fun e=>g0 _ e rfl
 exact⟨(hk (Array.getElem?_eq_some_iff.1 h.n).1 fun k e=>(hD k e).1).trans h.n,⟨cs,(hk (Array.getElem?_eq_some_iff.1 h1).1 fun k e=>(hD k e).2.1).trans h1,h2,h3⟩,(hk (Array.getElem?_eq_some_iff.1 h.m).1 fun k e=>(hD k e).2.2.1).trans h.m,(World.cell?_of_block (w:=W) (hk (Zab h.p) fun k e=>(hD k e).2.2.2)).trans h.p,h.ne⟩
theorem PuS.snoc (h:PuS c n L W)(hl:L.length<24){b:List Int}:PuS c n (L++[b]) ((((((W.setCell ⟨c.bo,L.length*4,none⟩ (.int .i64 (at0 b 0))).setCell ⟨c.bo,L.length*4+1,none⟩ (.int .i64 (at0 b 1))).setCell ⟨c.bo,L.length*4+2,none⟩ (.int .i64 (at0 b 2))).setCell ⟨c.bo,L.length*4+3,none⟩ (.int .i64 (at0 b 3)))).setCell ⟨c.bm,0,none⟩ (.int .i64 ((L.length:Nat)+1))):=by
 obtain⟨cs,h1,h2,h3⟩:=h.o;obtain⟨n1,n2,n3,n4,n5⟩:=h.ne;have hw:Wr (fun k=>k=c.bo) W ((((W.setCell ⟨c.bo,L.length*4,none⟩ (.int .i64 (at0 b 0))).setCell ⟨c.bo,L.length*4+1,none⟩ (.int .i64 (at0 b 1))).setCell ⟨c.bo,L.length*4+2,none⟩ (.int .i64 (at0 b 2))).setCell ⟨c.bo,L.length*4+3,none⟩ (.int .i64 (at0 b 3))) :=
  ((((Wr.refl (fun k=>k=c.bo) W).setCell (p:=⟨c.bo,_,none⟩) (.inl rfl) _).setCell (p:=⟨c.bo,_,none⟩) (.inl rfl) _).setCell (p:=⟨c.bo,_,none⟩) (.inl rfl) _).setCell (p:=⟨c.bo,_,none⟩) (.inl rfl) _
 have hb:=Zac (k:=L.length*4+3) (Zac (k:=L.length*4+2) (Zac (k:=L.length*4+1) (Zac (k:=L.length*4) h1 (.int .i64 (at0 b 0))) (.int .i64 (at0 b 1))) (.int .i64 (at0 b 2))) (.int .i64 (at0 b 3));obtain⟨W1,g4⟩:∃ W1,W1=((((W.setCell ⟨c.bo,L.length*4,none⟩ (.int .i64 (at0 b 0))).setCell ⟨c.bo,L.length*4+1,none⟩ (.int .i64 (at0 b 1))).setCell ⟨c.bo,L.length*4+2,none⟩ (.int .i64 (at0 b 2))).setCell ⟨c.bo,L.length*4+3,none⟩ (.int .i64 (at0 b 3))):=⟨_,rfl⟩;rw[<- g4] at hw hb ⊢;have hk:∀ {q:Nat},q<W.heap.size->q≠c.bo->W1.heap[q]?=W.heap[q]?:=fun hq g1=>hw.keep _ hq g1
 have g3:Wr (fun k=>k=c.bm) W1 (W1.setCell ⟨c.bm,0,none⟩ (.int .i64 ((L.length:Nat)+1))):=(Wr.refl (fun k=>k=c.bm) W1).setCell (p:=⟨c.bm,0,none⟩) (.inl rfl) _;have g2:∀ {q:Nat},q<W1.heap.size->q≠c.bm->(W1.setCell ⟨c.bm,0,none⟩ (.int .i64 ((L.length:Nat)+1))).heap[q]?=W1.heap[q]?:=fun hq g1=>g3.keep _ hq g1
 have hs:=hw.size;have ln:=(Array.getElem?_eq_some_iff.1 h.n).1;have lo:=(Array.getElem?_eq_some_iff.1 h1).1;have lm:=(Array.getElem?_eq_some_iff.1 h.m).1;have lp:=Zab h.p;refine⟨(g2 (by omega) n4.symm).trans ((hk ln n1.symm).trans h.n),⟨_,(g2 (by omega) n2).trans hb,by simpa using h2,fun i hi=>?_⟩,?_,(World.cell?_of_block (w:=W) ((g2 (q:=c.bp) (by have:c.bp<W.heap.size:=lp;omega) n5.symm).trans (hk lp n3.symm))).trans h.p,h.ne⟩
 ·have g0:=h3 i hi;unfold rowV at g0 ⊢;have hr:(L++[b]).getD (i/4) []=if i/4=L.length then b else L.getD (i/4) []:=by
   split
   . rename_i e;rw[e];simp[List.getD]
   ·rename_i e
    rcases Nat.lt_or_ge (i/4) L.length with q|q
    . simp[List.getD,List.getElem?_append_left q]
    . simp[List.getD,show ¬ i/4<L.length+1 by omega,List.getElem?_eq_none,q,show L.length+1<=i/4 by omega]
  rw[hr];simp only[Array.getElem?_setIfInBounds,Array.size_setIfInBounds,h2]
  by_cases e:i/4=L.length
  ·rw[if_pos e];rcases(show i%4=0\/i%4=1\/i%4=2\/i%4=3 by omega) with q|q|q|q<;>rw[q]
   . rw[if_neg (by omega),if_neg (by omega),if_neg (by omega),if_pos (by omega),if_pos (by omega)]
   . rw[if_neg (by omega),if_neg (by omega),if_pos (by omega),if_pos (by omega)]
   . rw[if_neg (by omega),if_pos (by omega),if_pos (by omega)]
   . rw[if_pos (by omega),if_pos (by omega)]
  . rw[if_neg e,if_neg (by omega),if_neg (by omega),if_neg (by omega),if_neg (by omega)];exact g0
 . have:=Zac (k:=0) ((hk lm n2.symm).trans h.m) (.int .i64 ((L.length:Nat)+1));rw[List.length_append,List.length_singleton];exact this
theorem PuS.n0 (h:PuS c n L W):W.cell? ⟨c.bn,0,none⟩=some (.int .i64 (n:Nat)):=by rw[cell_of_row _ _ 0 _ _ _ h.n];rfl
theorem PuS.m0 (h:PuS c n L W):W.cell? ⟨c.bm,0,none⟩=some (.int .i64 (L.length:Nat)):=by rw[cell_of_row _ _ 0 _ _ _ h.m];rfl
end
def useB (b:List Int)(j:Nat):Bool:=decide ((j:Int)∈b)
def rowA (b:List Int):Value:=.agg #[.int .i64 (at0 b 0),.int .i64 (at0 b 1),.int .i64 (at0 b 2),.int .i64 (at0 b 3)]
def Zsc (b:List Int):Value:=.agg #[.bool (useB b 0),.bool (useB b 1),.bool (useB b 2),.bool (useB b 3)]
section
variable {c:PuC}{n:Nat}{L:List (List Int)}{W W':World}
def PuR (c:PuC)(n:Nat)(L:List (List Int))(W:World)(x:Ending)(w':World):Prop:=x=.returned (.tuple #[])/\Wr c.wr W w'/\PuS c n L w'
theorem Yc8 (h:PuS c n L W)(hl:L.length<24){b:List Int}(hb:b.length=n)(hn4:n<=4):Calls prog 150 (#[rowA b,.int .i64 (b.length:Nat),Zsc b]++c.caps) W (PuR c n (L++[b]) W):=by
 obtain⟨bn,bo,bm,bp⟩:=c;obtain⟨w1,g2⟩:∃ w1,w1=(W.alloc (.cells #[.int .i64 (at0 b 0),.int .i64 (at0 b 1),.int .i64 (at0 b 2),.int .i64 (at0 b 3)] 130)).alloc (.cells #[.bool (useB b 0),.bool (useB b 1),.bool (useB b 2),.bool (useB b 3)] 187):=⟨_,rfl⟩;have g5:Below W.heap.size W w1:=by rw[g2];exact(Zae _ _).alloc (by simp) _
 have h1:=h.below g5;have k1:w1.heap[W.heap.size]?=some (.cells #[.int .i64 (at0 b 0),.int .i64 (at0 b 1),.int .i64 (at0 b 2),.int .i64 (at0 b 3)] 130 (0,0)):=by
  rw[g2];exact(Go.heap_alloc_old _ _ (by simp)).trans (heap_alloc_new _ _)
 obtain⟨r0,r1,r2,r3,-⟩:=cells4 k1;have n0:=h1.n0;have m0:=h1.m0;obtain⟨cs,q1,q2,q3⟩:=h1.o;have HO:∀ i,i<96->w1.cell? ⟨bo,i,none⟩=some (.int .i64 (rowV L i)):=fun i hi=>by rw[cell_of_row _ _ i _ _ _ q1];exact q3 i hi
 have g0:∀ i,w1.frozen? ⟨bo,i,none⟩=false:=fun i=>by simp[World.frozen?,q1]
 have o0:=HO (L.length*4) (by omega);have o1:=HO (L.length*4+1) (by omega);have o2:=HO (L.length*4+2) (by omega);have o3:=HO (L.length*4+3) (by omega);have f0:=g0 (L.length*4);have f1:=g0 (L.length*4+1);have f2:=g0 (L.length*4+2);have f3:=g0 (L.length*4+3);have gc:(L.length:Int)<24:=by omega
 have ga:=Hd (h1.snoc hl (b:=b));obtain⟨w2,g1⟩:∃ w2,w2=((((w1.setCell ⟨bo,L.length*4,none⟩ (.int .i64 (at0 b 0))).setCell ⟨bo,L.length*4+1,none⟩ (.int .i64 (at0 b 1))).setCell ⟨bo,L.length*4+2,none⟩ (.int .i64 (at0 b 2))).setCell ⟨bo,L.length*4+3,none⟩ (.int .i64 (at0 b 3))):=⟨_,rfl⟩;have g3:Wr (fun k=>k=bo) w1 w2:=by
  rw[g1];exact((((Wr.refl (fun k=>k=bo) w1).setCell (p:=⟨bo,_,none⟩) (.inl rfl) _).setCell (p:=⟨bo,_,none⟩) (.inl rfl) _).setCell (p:=⟨bo,_,none⟩) (.inl rfl) _).setCell (p:=⟨bo,_,none⟩) (.inl rfl) _
 have g7:bm≠bo:=h.ne.2.1.symm;have g4:=(g3.keep bm (Array.getElem?_eq_some_iff.1 h1.m).1 g7).trans h1.m;have p0:w2.cell? ⟨bm,0,none⟩=some (.int .i64 (L.length:Nat)):=by rw[cell_of_row _ _ 0 _ _ _ g4];rfl
 have pf:w2.frozen? ⟨bm,0,none⟩=false:=by simp[World.frozen?,g4]
 have g6:Hid (PuS ⟨bn,bo,bm,bp⟩ n (L++[b]) (w2.setCell ⟨bm,0,none⟩ (.int .i64 ((L.length:Nat)+1)))):=Hd (by rw[g1];exact ga.out);have g8:Hid (Wr (PuC.wr ⟨bn,bo,bm,bp⟩) W (w2.setCell ⟨bm,0,none⟩ (.int .i64 ((L.length:Nat)+1)))):=Hd (((Wr.of_below g5 (PuC.wr ⟨bn,bo,bm,bp⟩)).trans (g3.mono (N:=PuC.wr ⟨bn,bo,bm,bp⟩) fun k e=>.inl e) (fun _ _ e=>e) (fun _ _ e=>e)).setCell (p:=⟨bm,0,none⟩) (.inl (.inr rfl)) _);have g9:=Hd g1.symm;have gd:((b.length:Int) == (n:Int))=true:=by rw[hb];simp
 have HW1:=Hd g2.symm;clear g2 g1 q1 q2 q3 HO g0 ga h h1 g3 g4 g5 k1 g7;obtain⟨P,hP⟩:∃ P:Ending->World->Prop,P=PuR ⟨bn,bo,bm,bp⟩ n (L++[b]) W:=⟨_,rfl⟩;rw[<- hP];have HP:Hid (P (.returned (.tuple #[])) (w2.setCell ⟨bm,0,none⟩ (.int .i64 ((L.length:Nat)+1)))):=Hd (by rw[hP];exact⟨rfl,g8.out,g6.out⟩);clear hP g8 g6;unfold PuC.caps rowA Zsc
 show Calls _ _ #[_,_,_,_,_,_,_] _ _
 go_enter func150,ntmps150
 go_upto_region 1 with fail;rw[HW1.out];go_upto_region 2 with fail;go_upto_region 3 with fail;rw[g9.out];clear HW1 g9 o0 o1 o2 o3 f0 f1 f2 f3;go_wp2_with fail;refine bodyPost_ret (results_none rfl _ _ _) rfl ?_;exact HP.out
theorem Zvu {xs:List Int}{j:Nat}(h:xs.length<=j):at0 xs j=0:=by simp[at0,List.getD,h]
def rowJ (b:List Int)(z:Int)(j:Nat):Value:=.int .i64 (if j=b.length then z else at0 b j)
theorem Yaj {b:List Int}{z v:Int}(h:b.length<4):(#[rowJ b z 0,rowJ b z 1,rowJ b z 2,rowJ b z 3]:Array Value).setIfInBounds b.length (.int .i64 v)=#[rowJ b v 0,rowJ b v 1,rowJ b v 2,rowJ b v 3]:=by
 unfold rowJ;rcases(show b.length=0\/b.length=1\/b.length=2\/b.length=3 by omega) with e|e|e|e<;>rw[e]<;>rfl
theorem Zyd {b:List Int}{v:Int}(j:Nat):rowJ b v j=.int .i64 (at0 (b++[v]) j):=by
 unfold rowJ;congr 1
 by_cases e:j=b.length
 . rw[if_pos e,Zbz (by omega),e,Nat.sub_self];rfl
 ·rw[if_neg e];rcases Nat.lt_or_ge j b.length with h|h
  . rw[Zbt h]
  . rw[Zvu h,Zvu (by simp;omega)]
theorem Zye {b:List Int}(j:Nat):rowJ b 0 j=.int .i64 (at0 b j):=by
 unfold rowJ;congr 1;split
 ·rename_i e
  rw[e,Zvu (Nat.le_refl _)]
 . rfl
theorem Ya6 {b:List Int}{v:Nat}(h:v<4):(#[.bool (useB b 0),.bool (useB b 1),.bool (useB b 2),.bool (useB b 3)]:Array Value).setIfInBounds v (.bool true)=#[.bool (useB (b++[(v:Int)]) 0),.bool (useB (b++[(v:Int)]) 1),.bool (useB (b++[(v:Int)]) 2),.bool (useB (b++[(v:Int)]) 3)]:=by
 unfold useB;rcases(show v=0\/v=1\/v=2\/v=3 by omega) with e|e|e|e<;>subst e<;>simp
def Zhk (k n:Nat)(b:List Int)(v:Nat):List (List Int):=(List.range v).flatMap fun u:Nat=>if (u:Int)∈b then [] else ordR k n (b++[(u:Int)])
theorem Zjb (k n:Nat)(b:List Int)(v:Nat):Zhk k n b (v+1)=Zhk k n b v++if (v:Int)∈b then [] else ordR k n (b++[(v:Int)]):=by
 unfold Zhk;rw[List.range_succ,List.flatMap_append];simp
theorem Yaz (k n:Nat)(b:List Int){v d:Nat}(h:v+d=n):(Zhk k n b v).length<=(ordR (k+1) n b).length:=by
 show _<=(Zhk k n b n).length
 rw[<- h];have:∀ m q d,(Zhk k m b q).length<=(Zhk k m b (q+d)).length:=fun m q d=>by
  induction d with
  | zero=>exact Nat.le_refl _
  | succ d ih =>
    rw[show q+(d+1)=q+d+1 by omega,Zjb,List.length_append];omega
 exact this _ v d
theorem Yd6 (h:PuS c n L W){k:Nat}{b:List Int}(hb:b.length+(k+1)=n)(hn4:n<=4)(hl:L.length+(ordR (k+1) n b).length<=24)
 (IH:∀ b L W,PuS c n L W->b.length+k=n->L.length+(ordR k n b).length<=24->Calls prog 150 (#[rowA b,.int .i64 (b.length:Nat),Zsc b]++c.caps) W (PuR c n (L++ordR k n b) W)) :
 Calls prog 150 (#[rowA b,.int .i64 (b.length:Nat),Zsc b]++c.caps) W (PuR c n (L++ordR (k+1) n b) W):=by
 obtain⟨bn,bo,bm,bp⟩:=c;obtain⟨w1,g3⟩:∃ w1,w1=(W.alloc (.cells #[.int .i64 (at0 b 0),.int .i64 (at0 b 1),.int .i64 (at0 b 2),.int .i64 (at0 b 3)] 130)).alloc (.cells #[.bool (useB b 0),.bool (useB b 1),.bool (useB b 2),.bool (useB b 3)] 187):=⟨_,rfl⟩;have ga:Below W.heap.size W w1:=by rw[g3];exact(Zae _ _).alloc (by simp) _
 have h1:=h.below ga;have k1:w1.heap[W.heap.size]?=some (.cells #[rowJ b 0 0,rowJ b 0 1,rowJ b 0 2,rowJ b 0 3] 130 (0,0)):=by
  simp only[Zye];rw[g3];exact(Go.heap_alloc_old _ _ (by simp)).trans (heap_alloc_new _ _)
 have k2:w1.heap[W.heap.size+1]?=some (.cells #[.bool (useB b 0),.bool (useB b 1),.bool (useB b 2),.bool (useB b 3)] 187 (0,0)):=by
  have:=heap_alloc_new (W.alloc (.cells #[.int .i64 (at0 b 0),.int .i64 (at0 b 1),.int .i64 (at0 b 2),.int .i64 (at0 b 3)] 130)) (.cells #[.bool (useB b 0),.bool (useB b 1),.bool (useB b 2),.bool (useB b 3)] 187);rw[World.size_alloc,<- g3] at this;exact this
 obtain⟨D,hD⟩:∃ D,D=W.heap.size:=⟨_,rfl⟩;rw[<- hD] at k1 k2;obtain⟨S,hS⟩:∃ S:Nat->World->Prop,S=fun v W'=>PuS ⟨bn,bo,bm,bp⟩ n (L++Zhk k n b v) W'/\Wr (PuC.wr ⟨bn,bo,bm,bp⟩) W W'/\(∃ z,W'.heap[D]?=some (.cells #[rowJ b z 0,rowJ b z 1,rowJ b z 2,rowJ b z 3] 130 (0,0)))/\W'.heap[D+1]?=some (.cells #[.bool (useB b 0),.bool (useB b 1),.bool (useB b 2),.bool (useB b 3)] 187 (0,0)):=⟨_,rfl⟩
 have H0:Hid (S 0 w1):=Hd (by rw[hS];exact⟨by simpa [Zhk] using h1,Wr.of_below ga _,⟨0,k1⟩,k2⟩);have n1:=h1.n0;have gA:((b.length:Int) == (n:Int))=false:=by rw[beq_eq_false_iff_ne];omega
 have gv:D+2=w1.heap.size:=by rw[g3,hD];simp
 have ge:∀ v W',S v W'->D+2<=W'.heap.size:=fun v W' hs=>by
  rw[hS] at hs;have:=(Array.getElem?_eq_some_iff.1 hs.2.2.2).1;omega
 have g5:Hid (∀ x v W',v<4->S x W'->W'.cell? ⟨D+1,v,none⟩=some (.bool (useB b v))):=Hd fun x v W' hv hs=>by
  rw[hS] at hs;rw[cell_of_row _ _ v _ _ _ hs.2.2.2];rcases(show v=0\/v=1\/v=2\/v=3 by omega) with e|e|e|e<;>subst e<;>rfl
 have gr:Hid (∀ (v:Nat) W',useB b v=true->S v W'->S (v+1) W'):=Hd fun v W' hv hs=>by
  rw[hS] at hs ⊢;dsimp only at hs ⊢;rw[Zjb,if_pos (of_decide_eq_true hv),List.append_nil];exact hs
 have gc:Hid (∀ W',S n W'->PuR ⟨bn,bo,bm,bp⟩ n (L++ordR (k+1) n b) W (.returned (.tuple #[])) W'):=Hd fun W' hs=>by
  rw[hS] at hs;exact⟨rfl,hs.2.1,hs.1⟩
 have gt:Hid (∀ (v:Nat) W',v<n->useB b v=false->S v W'->∃ w2,w2=W'.alloc (.cells #[.bool (useB b 0),.bool (useB b 1),.bool (useB b 2),.bool (useB b 3)] 187)/\w2.cell? ⟨W'.heap.size,v,none⟩=some (.bool (useB b v))/\w2.frozen? ⟨W'.heap.size,v,none⟩=false/\∃ w3,w3=w2.setCell ⟨W'.heap.size,v,none⟩ (.bool true)/\(∃ z:Int,w3.cell? ⟨D,b.length,none⟩=some (.int .i64 z))/\w3.frozen? ⟨D,b.length,none⟩=false /\
  ∃ w4,w4=w3.setCell ⟨D,b.length,none⟩ (.int .i64 (v:Nat))/\w4.cell? ⟨bp,0,none⟩=some (.func (.func 150) #[] #[.pointer (some ⟨bn,0,none⟩),.pointer (some ⟨bo,0,none⟩),.pointer (some ⟨bm,0,none⟩),.pointer (some ⟨bp,0,none⟩)]) /\
  w4.heap[D]?=some (.cells #[.int .i64 (at0 (b++[(v:Int)]) 0),.int .i64 (at0 (b++[(v:Int)]) 1),.int .i64 (at0 (b++[(v:Int)]) 2),.int .i64 (at0 (b++[(v:Int)]) 3)] 130 (0,0))/\w4.heap[W'.heap.size]?=some (.cells #[.bool (useB (b++[(v:Int)]) 0),.bool (useB (b++[(v:Int)]) 1),.bool (useB (b++[(v:Int)]) 2),.bool (useB (b++[(v:Int)]) 3)] 187 (0,0)) /\
  Hid (Calls prog 150 #[.agg #[.int .i64 (at0 (b++[(v:Int)]) 0),.int .i64 (at0 (b++[(v:Int)]) 1),.int .i64 (at0 (b++[(v:Int)]) 2),.int .i64 (at0 (b++[(v:Int)]) 3)],.int .i64 ((b.length:Nat)+1),.agg #[.bool (useB (b++[(v:Int)]) 0),.bool (useB (b++[(v:Int)]) 1),.bool (useB (b++[(v:Int)]) 2),.bool (useB (b++[(v:Int)]) 3)],.pointer (some ⟨bn,0,none⟩),.pointer (some ⟨bo,0,none⟩),.pointer (some ⟨bm,0,none⟩),.pointer (some ⟨bp,0,none⟩)] w4 fun x w'=>x=.returned (.tuple #[])/\S (v+1) w')):=by
  intro v W' hv g0 hs;rw[hS] at hs;obtain⟨s1,s2,⟨z,s3⟩,s4⟩:=hs;have go:=(Array.getElem?_eq_some_iff.1 s3).1;have gm:=(Array.getElem?_eq_some_iff.1 s4).1;have gk:bn<D/\bo<D/\bm<D/\bp<D:=by
   obtain⟨cs,q1,_⟩:=h.o;have e1:=(Array.getElem?_eq_some_iff.1 h.n).1;have e2:=(Array.getElem?_eq_some_iff.1 q1).1;have e3:=(Array.getElem?_eq_some_iff.1 h.m).1;have e4:=Zab h.p;dsimp only at e1 e2 e3 e4;omega
  obtain⟨o1,o2,o3,o4⟩:=gk;obtain⟨U,hU⟩:∃ U,U=W'.heap.size:=⟨_,rfl⟩;have gp:b.length<4:=by omega
  have g4:=Zae W' (.cells #[.bool (useB b 0),.bool (useB b 1),.bool (useB b 2),.bool (useB b 3)] 187);have q2:=heap_alloc_new W' (.cells #[.bool (useB b 0),.bool (useB b 1),.bool (useB b 2),.bool (useB b 3)] 187);have d2:=(g4.block D go).trans s3;have d2':=(g4.block (D+1) gm).trans s4;have p2:=s1.below g4;refine⟨_,rfl,?_,by simp only[World.frozen?];rw[q2];simp,_,rfl,?_⟩
  . rw[cell_of_row _ _ v _ _ _ q2];rcases(show v=0\/v=1\/v=2\/v=3 by omega) with e|e|e|e<;>subst e<;>rfl
  rw[<- hU] at q2 g4 ⊢
  generalize W'.alloc (.cells #[.bool (useB b 0),.bool (useB b 1),.bool (useB b 2),.bool (useB b 3)] 187)=w2 at *
  have g2:Wr (fun k=>k=U) w2 (w2.setCell ⟨U,v,none⟩ (.bool true)):=(Wr.refl (fun k=>k=U) w2).setCell (p:=⟨U,v,none⟩) (.inl rfl) _;have q3:=Zac (k:=v) q2 (.bool true);rw[Ya6 (by omega)] at q3
  generalize w2.setCell ⟨U,v,none⟩ (.bool true)=w3 at *
  have gy:=g4.size;have d3:=(g2.keep D (by omega) (by omega)).trans d2;have d3':=(g2.keep (D+1) (by omega) (by omega)).trans d2';have p3:=p2.other g2 fun k e=>by dsimp only at e ⊢;omega
  refine⟨⟨if b.length=b.length then z else at0 b b.length,?_⟩,by simp[World.frozen?,d3],_,rfl,?_⟩
  . rw[cell_of_row _ _ b.length _ _ _ d3];unfold rowJ;rcases(show b.length=0\/b.length=1\/b.length=2\/b.length=3 by omega) with e|e|e|e<;>rw[e]<;>rfl
  have g1:Wr (fun k=>k=D) w3 (w3.setCell ⟨D,b.length,none⟩ (.int .i64 (v:Nat))):=(Wr.refl (fun k=>k=D) w3).setCell (p:=⟨D,b.length,none⟩) (.inl rfl) _;have q4:=Zac (k:=b.length) d3 (.int .i64 (v:Nat));rw[Yaj gp] at q4
  generalize w3.setCell ⟨D,b.length,none⟩ (.int .i64 (v:Nat))=w4 at *
  have gx:=g2.size;have gw:=g1.size;have gq:=(Array.getElem?_eq_some_iff.1 q3).1;have d4:=(g1.keep U gq (by omega)).trans q3;have d4':=(g1.keep (D+1) (by omega) (by omega)).trans d3';have p4:=p3.other g1 fun k e=>by dsimp only at e ⊢;omega
  have hn:=g0;have gl:¬ (v:Int)∈b:=of_decide_eq_false g0;have g7:=Zjb k n b v;rw[if_neg gl] at g7;have gn:=Yaz k n b (v:=v+1) (d:=n-(v+1)) (by omega);rw[g7,List.length_append] at gn;have g6:=IH (b++[(v:Int)]) (L++Zhk k n b v) w4 p4 (by simp;omega) (by rw[List.length_append];omega);rw[List.append_assoc,<- g7] at g6;refine⟨p4.p,by simpa only [Zyd] using q4,d4,Hd ?_⟩;have e5:((b++[(v:Int)]).length:Int)=(b.length:Nat)+1:=by simp
  unfold rowA Zsc PuC.caps at g6;rw[e5] at g6;refine Calls.mono g6 ?_;rintro x w' ⟨h5,h6,h7⟩;refine⟨h5,?_⟩;rw[hS];have hw:Wr (PuC.wr ⟨bn,bo,bm,bp⟩) W w':=by
   have a1:Wr (PuC.wr ⟨bn,bo,bm,bp⟩) W w2:=s2.trans (Wr.of_below (hU ▸ g4) (PuC.wr ⟨bn,bo,bm,bp⟩)) (fun _ _ e=>e) (fun _ _ e=>e);have a2:=a1.trans g2 (N:=PuC.wr ⟨bn,bo,bm,bp⟩) (fun _ _ e=>e) (fun k hk e=>by have:=s2.size;omega);have a3:=a2.trans g1 (N:=PuC.wr ⟨bn,bo,bm,bp⟩) (fun _ _ e=>e) (fun k hk e=>by omega);exact a3.trans h6 (fun _ _ e=>e) (fun _ _ e=>e)
  have k1:¬ PuC.wr ⟨bn,bo,bm,bp⟩ D:=fun e=>by rcases e with e|e<;>dsimp only at e<;>omega
  have k2:¬ PuC.wr ⟨bn,bo,bm,bp⟩ (D+1):=fun e=>by rcases e with e|e<;>dsimp only at e<;>omega
  exact⟨h7,hw,⟨_,(h6.keep D (by omega) k1).trans q4⟩,(h6.keep (D+1) (by omega) k2).trans d4'⟩
 have gu:=Hd Zmf;have HW1:=Hd g3.symm;have HSZ:=Hd ge;unfold PuC.caps rowA Zsc
 show Calls _ _ #[_,_,_,_,_,_,_] _ _
 obtain⟨P,hP⟩:∃ P:Ending->World->Prop,P=PuR ⟨bn,bo,bm,bp⟩ n (L++ordR (k+1) n b) W:=⟨_,rfl⟩;rw[<- hP] at gc ⊢;clear g3 ga k1 k2 hP IH h h1 hS hl ge
 go_enter func150,ntmps150
 go_upto_region 1 with fail;rw[<- hD,HW1.out];clear hD HW1;go_wp2_with fail
 go_loopw [10,11,21] (fun _ _ s21 wr=>∃ v:Nat,v<=n/\s21=.int .i64 (v:Nat)/\Hid (S v wr)) (fun _ _ s21 _=>n-(intOf s21).toNat)
 case atStart=>exact⟨0,Nat.zero_le _,rfl,H0⟩
 case round =>
  obtain⟨v,hv,rfl,HS⟩:=hrel
  by_cases g9:v<n
  ·have gB:(v:Int)<(n:Int):=by omega
   have gz:(v:Int)<4:=by omega
   have g8:=g5.out v v wr (by omega) HS.out;have l0:=g5.out v 0 wr (by omega) HS.out;have l1:=g5.out v 1 wr (by omega) HS.out;have l2:=g5.out v 2 wr (by omega) HS.out;have l3:=g5.out v 3 wr (by omega) HS.out;cases g0:useB b v with
   | true =>
     rw[g0] at g8;have HN:=Hd (gr.out v wr g0 HS.out);clear HS g0 l0 l1 l2 l3;go_wp2_with fail;go_roundw
     case rel=>exact⟨v+1,g9,by go_num,HN⟩
     case measure=>simp[intOf];omega
   | false =>
     rw[g0] at g8;obtain⟨w2,gd,u2,f2,w3,g2,⟨z,u3⟩,f3,w4,g1,u4,gg,gf,HC⟩:=gt.out v wr g9 g0 HS.out;have gj:=Hd gd.symm;have gi:=Hd g2.symm;have gh:=Hd g1.symm;clear HS gd g2 g1;go_upto_region 7 with fail;go_upto_region 9 with fail;rw[gj.out];go_upto_region 10 with fail;rw[gi.out];go_upto_region 11 with fail;rw[gh.out];obtain⟨r0,r1,r2,r3,-⟩:=cells4 gg;obtain⟨s0,s1,s2,s3,-⟩:=cells4 gf;clear gj gi gh u2 u3 f2 f3 l0 l1 l2 l3 g8 gg gf g0;have eg:=gu.out;go_wp2_with fail;refine HC.out.mono ?_;rintro x w5 ⟨rfl,h5⟩;have HN:=Hd h5;clear h5 HC u4 r0 r1 r2 r3 s0 s1 s2 s3 eg;go_wp2_with fail;go_roundw
     case rel=>exact⟨v+1,g9,by go_num,HN⟩
     case measure=>simp[intOf];omega
  ·obtain rfl:v=n:=by omega
   have HF:=Hd (gc.out _ HS.out);clear HS;go_wp2_with fail;refine bodyPost_ret (results_none rfl _ _ _) rfl ?_;exact HF.out
theorem Zs4 (hn4:n<=4):∀ (k:Nat) (b:List Int) (L:List (List Int)) (W:World),PuS c n L W->b.length+k=n->L.length+(ordR k n b).length<=24->Calls prog 150 (#[rowA b,.int .i64 (b.length:Nat),Zsc b]++c.caps) W (PuR c n (L++ordR k n b) W)
 | 0,b,L,W,h,hb,hl=>Yc8 h (by simp[ordR] at hl;omega) (by omega) hn4
 | k+1,b,L,W,h,hb,hl=>Yd6 h hb hn4 hl fun b L W h1 h2 h3=>Zs4 hn4 k b L W h1 h2 h3
end
def tabC (L:List (List Int)):Array Value:=((List.range 96).map fun i=>Value.int .i64 (rowV L i)).toArray
theorem Zc4 (L:List (List Int)):(tabC L).size=96:=by simp[tabC]
theorem Zj7 (L:List (List Int)){i:Nat}(h:i<96):(tabC L)[i]?=some (.int .i64 (rowV L i)):=by simp[tabC,h]
theorem Ydf {L:List (List Int)}{cs:Array Value}(h1:cs.size=96)(h2:∀ i,i<96->cs[i]?=some (.int .i64 (rowV L i))):cs=tabC L:=by
 apply Array.ext_getElem?;intro i
 by_cases h:i<96
 . rw[h2 i h,Zj7 L h]
 . rw[Array.getElem?_eq_none (by omega),Array.getElem?_eq_none (by rw[Zc4];omega)]
theorem ord24 {n:Nat}(h:n<=4):(ordR n n []).length<=24:=by
 rcases(show n=0\/n=1\/n=2\/n=3\/n=4 by omega) with e|e|e|e|e<;>subst e<;>decide +kernel
theorem Zqk {P:Program}(w:World)(g:Nat)(t ty:TypeId)(cur cs:Array Value)(hg:w.heap[g]?=some (.cells cur t (0,0)))(hz:cs.size=cur.size)(h1:∀ v∈cs,v.oneCell'=true)(hi:(P.info? ty).map (fun i=>i.size)=some cs.size) :
 (Instr.storeAt ty (.pointer (some ⟨g,0,none⟩)) (.agg cs)).run P w=.ok () (w.setRow g cs):=by
 have g0:=run_storeCells_from (P:=P) g t cs.toList 0 cur w hg (by simpa using hz) (fun v hv=>h1 v (by simpa using hv));have e:(cur.toList.take 0++cs.toList).toArray=cs:=by simp
 rw[e] at g0;cases hq:P.info? ty with
 | none=>simp[hq] at hi
 | some i =>
   have hs:cs.size=i.size:=by simp[hq] at hi;omega
   simp only[Instr.storeAt,Instr.sureAddr,Sem.run_bind,Sem.run_pure,Result.andThen_ok];simp[storeVar,sizeOf,typeInfo,hq,Value.cells,hs,g0]
theorem Zt2 {P:Program}{o:Oper}{a:Act}{w:World}{t:TypeId}{s:Operand}{v:Value}(ho:o.op=.load t s)(hr:(Instr.loadAt t (a.eval s)).run P w=.ok v w):(execOp a.eval o).run P w=.ok (.value v) w:=by
 unfold execOp;simp[ho,hr]
theorem Zvt {n:Nat}(hn4:n<=4)(w:World):Calls prog 98 #[.int .i64 n] w fun x w'=>x=.returned (.tuple #[.agg (tabC (ordR n n [])),.int .i64 ((ordR n n []).length:Nat)])/\Below w.heap.size w w':=by
 have gB:∀ (fn:Fn) (first cap:Array Value) (w:World),(Instr.makeFunc fn first cap).run prog w=.ok (.func fn first cap) w:=fun _ _ _ _=>rfl
 obtain⟨D,hD⟩:∃ D,D=w.heap.size:=⟨_,rfl⟩;have hz:Tryz.zeroCells131=tabC []:=by kernel_rfl
 obtain⟨a1,gc⟩:∃ a,a=w.alloc (.cells #[.int .i64 (n:Nat)] 3):=⟨_,rfl⟩;obtain⟨a2,ga⟩:∃ a,a=a1.alloc (.cells (tabC []) 131):=⟨_,rfl⟩;obtain⟨a3,g9⟩:∃ a,a=a2.alloc (.cells (tabC []) 131):=⟨_,rfl⟩;obtain⟨a4,g8⟩:∃ a,a=a3.alloc (.cells #[.int .i64 0] 3):=⟨_,rfl⟩;obtain⟨a5,g7⟩:∃ a,a=a4.alloc (.cells #[Value.nilFunc] 186):=⟨_,rfl⟩;have s1:a1.heap.size=D+1:=by rw[gc,hD];simp
 have s2:a2.heap.size=D+2:=by rw[ga,World.size_alloc,s1]
 have s3:a3.heap.size=D+3:=by rw[g9,World.size_alloc,s2]
 have s4:a4.heap.size=D+4:=by rw[g8,World.size_alloc,s3]
 have s5:a5.heap.size=D+5:=by rw[g7,World.size_alloc,s4]
 have b1:Below w.heap.size w a1:=by rw[gc];exact Zae _ _
 have b2:Below a1.heap.size a1 a2:=by rw[ga];exact Zae _ _
 have b3:Below a2.heap.size a2 a3:=by rw[g9];exact Zae _ _
 have b4:Below a3.heap.size a3 a4:=by rw[g8];exact Zae _ _
 have b5:Below a4.heap.size a4 a5:=by rw[g7];exact Zae _ _
 have h1:a1.heap[D]?=some (.cells #[.int .i64 (n:Nat)] 3 (0,0)):=by rw[gc,hD];exact heap_alloc_new _ _
 have h2:a2.heap[D+1]?=some (.cells (tabC []) 131 (0,0)):=by rw[ga,<- s1];exact heap_alloc_new _ _
 have h3:a3.heap[D+2]?=some (.cells (tabC []) 131 (0,0)):=by rw[g9,<- s2];exact heap_alloc_new _ _
 have h4:a4.heap[D+3]?=some (.cells #[.int .i64 0] 3 (0,0)):=by rw[g8,<- s3];exact heap_alloc_new _ _
 have h5:a5.heap[D+4]?=some (.cells #[Value.nilFunc] 186 (0,0)):=by rw[g7,<- s4];exact heap_alloc_new _ _
 have g1:=(b5.block D (by omega)).trans ((b4.block D (by omega)).trans ((b3.block D (by omega)).trans ((b2.block D (by omega)).trans h1)));have g2:=(b5.block (D+1) (by omega)).trans ((b4.block (D+1) (by omega)).trans ((b3.block (D+1) (by omega)).trans h2));have g3:=(b5.block (D+2) (by omega)).trans ((b4.block (D+2) (by omega)).trans h3);have g4:=(b5.block (D+3) (by omega)).trans h4;obtain⟨c,hc⟩:∃ c:PuC,c=⟨D,D+2,D+3,D+4⟩:=⟨_,rfl⟩;obtain⟨fv,ge⟩:∃ v,v=Value.func (.func 150) #[] c.caps:=⟨_,rfl⟩;obtain⟨a6,gg⟩:∃ a,a=a5.setCell ⟨D+4,0,none⟩ fv:=⟨_,rfl⟩;have g0:Wr (fun k=>k=D+4) a5 a6:=by rw[gg];exact(Wr.refl (fun k=>k=D+4) a5).setCell (p:=⟨D+4,0,none⟩) (.inl rfl) _
 have h6:a6.heap[D+4]?=some (.cells #[fv] 186 (0,0)):=by rw[gg];exact Zac h5 _
 have k1:=(g0.keep D (by omega) (by omega)).trans g1;have k2:=(g0.keep (D+1) (by omega) (by omega)).trans g2;have k3:=(g0.keep (D+2) (by omega) (by omega)).trans g3;have k4:=(g0.keep (D+3) (by omega) (by omega)).trans g4;have hp:PuS c n [] a6:=by
  subst hc;exact⟨k1,⟨_,k3,Zc4 _,fun i hi=>Zj7 _ hi⟩,k4,by rw[cell_of_row _ _ 0 _ _ _ h6,ge];rfl,by dsimp only;omega⟩
 have gh:Below w.heap.size w a6:=by
  have:=b1.trans (b2.mono b1.size);have:=this.trans (b3.mono this.size);have:=this.trans (b4.mono this.size);have:=this.trans (b5.mono this.size);exact this.trans (g0.below (fun k hk=>by omega) (by omega))
 have g6:(store ⟨D+4,0,none⟩ fv).run prog a5=.ok () a6:=by
  rw[gg];exact Zcz (u:=Value.nilFunc) (by rw[cell_of_row _ _ 0 _ _ _ h5];rfl) (by simp[World.frozen?,h5]) (by rw[ge];rfl)
 have HC:=Hd (Zs4 hn4 n [] [] a6 hp (by simp) (by have:=ord24 hn4;simpa using this));have p4:a6.cell? ⟨D+4,0,none⟩=some fv:=by rw[cell_of_row _ _ 0 _ _ _ h6];rfl
 obtain⟨L,hL⟩:∃ L,L=ordR n n []:=⟨_,rfl⟩;rw[List.nil_append,<- hL] at HC;rw[<- hL];have gd:Hid (∀ w7,PuR c n L a6 (.returned (.tuple #[])) w7->w7.heap[D+2]?=some (.cells (tabC L) 131 (0,0))/\w7.heap[D+3]?=some (.cells #[.int .i64 (L.length:Nat)] 3 (0,0))/\w7.heap[D+1]?=some (.cells (tabC []) 131 (0,0))/\Below w.heap.size w w7):=Hd fun w7 ⟨_,q1,q2⟩=>by
  obtain⟨cs,q3,q4,q5⟩:=q2.o;rw[Ydf q4 q5] at q3;have q6:=q2.m;have q7:¬ c.wr (D+1):=by
   rw[hc];rintro(e|e)<;>dsimp only at e<;>omega
  rw[hc] at q3 q6;have hz:=g0.size;refine⟨q3,q6,(q1.keep (D+1) (by omega) q7).trans k2,gh.trans (q1.below (fun k hk=>?_) gh.size)⟩;rw[hc] at hk;rcases hk with e|e<;>dsimp only at e<;>omega
 have gi:=Hd g6;have gy:=Hd Zmf;have gr:=Hd g7.symm;have gt:=Hd g8.symm;have gu:=Hd g9.symm;have gv:=Hd ga.symm;have gw:=Hd gc.symm;have gC:=Hd s4;have n0:a5.cell? ⟨D,0,none⟩=some (.int .i64 (n:Nat)):=by rw[cell_of_row _ _ 0 _ _ _ g1];rfl
 have gx:a1.heap.size=D+1:=s1;have gf:fv=.func (.func 150) #[] #[.pointer (some ⟨D,0,none⟩),.pointer (some ⟨D+2,0,none⟩),.pointer (some ⟨D+3,0,none⟩),.pointer (some ⟨D+4,0,none⟩)]:=by rw[ge,hc];rfl
 have gk:Hid (Calls prog 150 #[.agg #[.int .i64 0,.int .i64 0,.int .i64 0,.int .i64 0],.int .i64 0,.agg #[.bool false,.bool false,.bool false,.bool false],.pointer (some ⟨D,0,none⟩),.pointer (some ⟨D+2,0,none⟩),.pointer (some ⟨D+3,0,none⟩),.pointer (some ⟨D+4,0,none⟩)] a6 (PuR c n L a6)):=Hd (by have:=HC.out;rw[hc] at this ⊢;exact this);rw[gf] at g6 p4;have go:=Hd p4;have gi:=Hd g6;obtain⟨Q,hQ⟩:∃ Q,Q=PuR c n L a6:=⟨_,rfl⟩;rw[<- hQ] at gk gd;have HQ:Hid (∀ x w',Q x w'->x=.returned (.tuple #[])):=Hd fun x w' h=>by rw[hQ] at h;exact h.1
 clear h1 h2 h3 h4 h5 g1 g2 g3 g4 k1 k2 k3 k4 h6 g0 b1 b2 b3 b4 b5 hp gh ge hL gx hc gf HC p4 gc ga g9 g8 g7 gg s1 s2 s3 s4 s5 hQ
 go_enter func98,ntmps98
 go_upto_region 4 with fail;rw[gw.out,gv.out,gu.out,gt.out,gr.out,<- hD,show D+1+1+1+1=D+4 from rfl,show D+1+1+1=D+3 from rfl,show D+1+1=D+2 from rfl];have gq:=Hd hD;clear gw gv gu gt gr hz n0 hD;go_upto_region 5 with fail;have p4:=go.out;have eg:=gy.out;clear g6 go gi;go_wp2_with fail;refine gk.out.mono ?_;rintro x w7 hq;obtain rfl:=HQ.out x w7 hq;obtain⟨q1,q2,q3,q4⟩:=gd.out w7 hq;have gA:=Hd q4;have gm:∀ W:World,W.heap[D+2]?=some (.cells (tabC L) 131 (0,0))->(Instr.loadAt 131 (.pointer (some ⟨D+2,0,none⟩))).run prog W=.ok (.agg (tabC L)) W:=fun W hy=>by
  simp only[Instr.loadAt,Instr.sureAddr,Sem.run_bind,Sem.run_pure,Result.andThen];exact run_loadVar_row _ _ _ _ (tabC L) (0,0) _ hy underlying131 rfl (by rw[Zc4];kernel_rfl)
 have gl:(Instr.storeAt 131 (.pointer (some ⟨D+1,0,none⟩)) (.agg (tabC L))).run prog w7.drew=.ok () (w7.drew.setRow (D+1) (tabC L)):=Zqk w7.drew (D+1) _ _ (tabC []) (tabC L) q3 (by rw[Zc4,Zc4]) (fun v hv=>by
  simp only[tabC,List.mem_toArray,List.mem_map] at hv;obtain⟨k,_,rfl⟩:=hv;rfl) (by rw[Zc4];kernel_rfl)
 obtain⟨w8,g5⟩:∃ w8,w8=w7.drew.setRow (D+1) (tabC L):=⟨_,rfl⟩;have g1:w8.heap[D+1]?=some (.cells (tabC L) 131 (0,0)):=by rw[g5];exact setRow_heap w7.drew (D+1) (tabC []) _ _ _ q3
 have g2:w8.heap[D+2]?=some (.cells (tabC L) 131 (0,0)):=by rw[g5,setRow_other _ _ _ _ (by omega)];exact q1
 have g3:w8.heap[D+3]?=some (.cells #[.int .i64 (L.length:Nat)] 3 (0,0)):=by rw[g5,setRow_other _ _ _ _ (by omega)];exact q2
 have gn:Below w.heap.size w w8:=by
  rw[g5];exact gA.out.trans ⟨rfl,rfl,rfl,by simp[World.setRow],fun k hk=>by rw[setRow_other _ _ _ _ (by have:=gq.out;omega)];rfl⟩
 have gz:=Hd gn;have gj:=Hd gl;have gp:=Hd gm;rw[<- g5] at gj;clear hq gd HQ gk p4 eg q4 q3 gl gm g5 gn gq;go_upto_region 6 with fail;refine Zj2 [0,1,2,3] (fun W=>W.heap[D+2]?=some (.cells (tabC L) 131 (0,0))/\W.heap[D+3]?=some (.cells #[.int .i64 (L.length:Nat)] 3 (0,0))) (fun _ _=>False) (fun _ _ _ _ h=>h.elim) (by kernel_rfl) ⟨q1,q2⟩ ?_;refine Ziy rfl rfl (by kernel_rfl) ⟨.agg (tabC L),fun W hW=>Zt2 rfl (gp.out W hW.1),?_⟩;simp only[Zai];refine Ziy rfl rfl (by kernel_rfl) ?_;refine⟨.int .i64 (L.length:Nat),fun W hW=>?_,?_⟩
 . have:=cell_of_row W _ 0 _ _ _ hW.2;go_simp
 simp only[Zai];refine Zsx (w':=w8) rfl (by kernel_rfl) rfl rfl (by go_simp<;>exact gj.out) ⟨g2,g3⟩ ?_;simp only[Zai];refine Ziy rfl rfl (by kernel_rfl) ⟨.int .i64 (L.length:Nat),fun W hW=>by go_simp,?_⟩;simp only[Zai];refine Zsw (by kernel_rfl) ?_;clear g2 g3 q1 q2 gj gp;go_wp2_with fail;refine bodyPost_ret (v:=.tuple #[.agg (tabC L),.int .i64 (L.length:Nat)]) ((results_cell_tmp rfl _ _ _).trans ?_) rfl ⟨rfl,gz.out⟩
 show ((asAddr (.pointer (some ⟨D+1,0,none⟩))).run prog w8).andThen (fun a w₁=>((loadVar 131 a).run prog w₁).andThen fun v w₂=>.ok (Value.tuple #[v,.int .i64 (L.length:Nat)]) w₂)=_
 have hl:=run_loadVar_row (P:=prog) w8 (D+1) _ 131 (tabC L) (0,0) _ g1 underlying131 rfl (by rw[Zc4];kernel_rfl)
 show ((loadVar 131 ⟨D+1,0,none⟩).run prog w8).andThen _=_
 rw[hl];rfl
end Go.Proofs.YtkidaindpahefaaGreat

namespace Go.Proofs
open Go.Proofs.Tryz
open Go.Shelf
def Tryz.laysNm223_ren:Go.Shelf.Ren:=⟨fun|23=>133|n=>n,fun|22=>22|3=>3|4=>4|0=>0|n=>n,fun|n=>n⟩
theorem Tryz.laysNm223:Go.Proofs.Lays2.n23 prog Tryz.laysNm223_ren:={
 mixed:=by kernel_rfl
 f23:=func133.trans (congrArg some (by kernel_rfl))
 t0:=underlying0
 a0:=Tryz.isAgg0
 z0:=Tryz.sizeOf0
 v0:=zeroValue0
 t3:=underlying3
 a3:=Tryz.isAgg3
 z3:=Tryz.sizeOf3
 v3:=zeroValue3
 t4:=underlying4
 a4:=Tryz.isAgg4
 z4:=Tryz.sizeOf4
 v4:=zeroValue4
 t22:=underlying22
 a22:=Tryz.isAgg22
 z22:=Tryz.sizeOf22
 v22:=zeroValue22
 i3:=by kernel_rfl }
open Go.RowKit Go.Lib Go.Sort in
theorem Tryz.slices_Delete_int_cells (b off n c i j:Nat)(zs:List Int)(w:World)(hz:n<=zs.length)(hcap:n<=c)(hm:c<=9223372036854775807)(hij:i<=j)(hj:j<=n)(hc:∀ j,j<zs.length->w.cell? ⟨b,off+j,none⟩=some (.int .i64 (zs.getD j 0)))(hf:∀ j,j<n->w.frozen? ⟨b,off+j,none⟩=false) :
 Calls prog 133 #[.slice (some ⟨b,off,none⟩) n c,.int .i64 i,.int .i64 j] w fun e w'=>e=.returned (.slice (some ⟨b,off,none⟩) (n-(j-i)) c)/\∃ q,w'=(w.drewN q).setCells b off (((zs.take n).take i++(zs.take n).drop j++List.replicate (j-i) 0).map (Value.int .i64)):=Any.slices_Delete_int_cells Tryz.laysNm223 b off n c i j zs w hz hcap hm hij hj hc hf
end Go.Proofs

namespace Go.Proofs.YtkidaindpahefaaGreat
open Go.Proofs.Tryz
open Go.RowKit Go.Shelf
section
variable {F:Fence}{n:Nat}{P:Program}{α:Type}
def Ybd (F:Fence)(n d:Nat)(P:Program)(g:Nat)(lb:Array Value)(encs:α->Array Value)(n₀:Nat)(Bx:Nat->Prop)(Good:List α->Prop)(w:World):Prop :=
 ∀ (l:Nat) (J:List α->(Nat->Prop)->World->Prop) (M:Nat->Prop) (W:World),Zse n₀ J->Minds n₀ J->Wr (fun k=>n₀<=k/\¬ Bx k) w W->(∀ k,Bx k->¬ M k) ->
  (∀ pre x M W1,J pre M W1->(∃ suf,Good (pre++x::suf))->YieldAt F (n-1-d) P l (encs x) W1 fun e W' =>
   e=.returned (.bool true)/\∃ M',J (pre++[x]) M' W'/\Wr M W1 W'/\∀ k,M' k->M k\/W1.heap.size<=k) ->
  J [] M W ->
  CallsIn F n P g (#[.func (.yield l) #[] #[]]++lb) W fun e W'=>(∃ v,e=.returned v)/\∃ xs M',Good xs/\J xs M' W'/\Wr (fun k=>n₀<=k) W W'/\∀ k,M' k->M k\/W.heap.size<=k
theorem Zy8 {g:Operand}{ps:Array Tmp}{assign body:Code}{Q:Exit->Act->World->Prop}{a:Act}{w:World}(hro:F.round=none)(h1:1<=n){gf:Nat}{lb:Array Value}(hg:a.eval g=.func (.func gf) #[] lb)
 (hFg:F.fn gf) (eg:∀ args w,(callFunc gf args).run P w=.ok (.enter gf args) w) {encs:α->Array Value} {n₀:Nat} {Bx:Nat->Prop} {Good:List α->Prop} {d:Nat} (hseq:Ybd F (n-1) d P gf lb encs n₀ Bx Good w) (hn0:n₀<=w.heap.size)
 (hBx:∀ k,Bx k->k<w.heap.size) (hps:∀ x,(encs x).size=ps.size) (I:List α->(Nat->Prop)->World->Prop) (hOw:Zse n₀ I) (hMi:Minds n₀ I) (M0:Nat->Prop) (hM0:∀ k,Bx k->¬ M0 k) (h0:I [] M0 w)
 (Ax:α->Act->World->World->Prop) (hAx:∀ x a' W W1 W2 l,l<W.heap.size->Ax x a' W W1->Wr (· = l) W1 W2->Ax x a' W W2)
 (hassign:∀ (l:Nat) (pre:List α) (x:α) (M:Nat->Prop) (W:World) (K:Act->World->Prop),I pre M W->(∀ a' W',Wr (fun _=>False) W W'->Ax x a' W W'->K a' W') ->
  assign.wpIn (F.inRound l) (n-1-1-d) P (Exit.then K (fun _ _ _=>False)) { tmps:=(ps.zip (encs x)).foldl (fun t (p,v)=>t.setIfInBounds p v) a.tmps,defers:=[] } W)
 (hbody:∀ (l:Nat) (pre:List α) (x:α) (a':Act) (M:Nat->Prop) (W0 W:World),I pre M W->Ax x a' W0 W->W0.heap.size<=W.heap.size->w.heap.size<=W0.heap.size->(∃ suf,Good (pre++x::suf))->body.wpIn (F.inRound l) (n-1-1-d) P
  (fun e _ W'=>match e with|.normal=>∃ M',I (pre++[x]) M' W'/\Wr (fun k=>M k\/W0.heap.size<=k) W W'/\(∀ k,M' k->M k\/W0.heap.size<=k)|_=>False) a' W)
 (hdone:∀ (xs:List α) (D:Nat) (M:Nat->Prop) (W:World),Good xs->w.heap.size<=D->¬ M D->I xs M W->(∀ k,M k->M0 k\/w.heap.size<=k)->Wr (fun k=>n₀<=k) w W->W.heap[D]?=some (.deferred (some []))->Q .normal { a with defers:={ target:=.collected D,args:=#[] }::a.defers } W) :
 (Code.rangeFunc g ps assign body).wpIn F n P Q a w:=by
 refine wpIn_rangeFunc ?_;intro fn go;rw[hro]
 let rec0:LoopState->Loop:=fun st=>{ state:=st,pending:=none,fn,tmps:=a.tmps,params:=ps,assign,body,defers:=w.heap.size }
 obtain⟨W1,g1⟩:∃ W1,W1=(w.alloc (.deferred (some []))).alloc (.loop (rec0 .ready)):=⟨_,rfl⟩;have gu:W1.heap[w.heap.size+1]?=some (.loop (rec0 .ready)):=by
  rw[g1];have:=World.alloc_heap_new (w.alloc (.deferred (some []))) (.loop (rec0 .ready))
  rwa [World.size_alloc] at this
 have gw:W1.heap[w.heap.size]?=some (.deferred (some [])):=by
  rw[g1];exact(Below.heap_alloc _ _ _ (by simp)).trans (World.alloc_heap_new w _)
 have g5:∀ N:Nat->Prop,Wr N w W1:=fun N=>by rw[g1];exact((Wr.refl N w).alloc _).alloc _
 have g2:=hOw [] M0 w h0;have gv:I [] M0 W1:=hMi _ _ _ _ h0 (g5 _)
 refine⟨w.heap.size+1,[{ target:=.collected w.heap.size,args:=#[] }],W1,{ target:=.fn (.func gf) lb,args:=#[.func (.yield (w.heap.size+1)) #[] #[]] },W1,gf,
  #[.func (.yield (w.heap.size+1)) #[] #[]]++lb,W1,?_,?_,?_,?_,fun _=>h1,?_⟩
 . rw[g1];exact run_enterLoop_outer _ _ _ _ _
 . simp only[resolve,hg];simp[go_sem]
 . intro f' gd;simp[Target.leads] at gd;subst gd;exact hFg
 . simp[invoke,go_sem,eg]
 refine(hseq (w.heap.size+1)
  (fun pre N W=>∃ M,I pre M W/\(∀ k,N k↔(M k\/k=w.heap.size+1\/k=w.heap.size))/\¬ M (w.heap.size+1)/\¬ M w.heap.size/\(∀ k,M k->M0 k\/w.heap.size<=k) /\
   W.heap[w.heap.size+1]?=some (.loop (rec0 .ready))/\W.heap[w.heap.size]?=some (.deferred (some [])))
  (fun k=>M0 k\/k=w.heap.size+1\/k=w.heap.size) W1 ?_ ?_ (g5 _) ?_ ?_ ?_).mono ?_
 ·rintro pre N W ⟨M,hi,hN,_,_,_,hl,hd⟩ k hk;rcases(hN k).1 hk with hk|hk|hk
  . exact hOw _ _ _ hi k hk
  . subst hk;exact⟨by omega,(Array.getElem?_eq_some_iff.1 hl).1⟩
  . subst hk;exact⟨hn0,(Array.getElem?_eq_some_iff.1 hd).1⟩
 ·rintro pre N W W' ⟨M,hi,hN,h2,h3,h4,hl,hd⟩ hw;refine⟨M,hMi _ _ _ _ hi ?_,hN,h2,h3,h4,?_,?_⟩
  . exact⟨hw.os,hw.tape,hw.output,hw.size,fun k hk hn=>hw.keep k hk (fun⟨a,b⟩=>hn ⟨a,fun e=>b ((hN k).2 (.inl e))⟩)⟩
  . exact(hw.keep _ (Array.getElem?_eq_some_iff.1 hl).1 (fun⟨_,b⟩=>b ((hN _).2 (.inr (.inl rfl))))).trans hl
  . exact(hw.keep _ (Array.getElem?_eq_some_iff.1 hd).1 (fun⟨_,b⟩=>b ((hN _).2 (.inr (.inr rfl))))).trans hd
 ·intro k hk hm;have:=hBx k hk;rcases hm with hm|hm|hm
  . exact hM0 k hk hm
  . omega
  . omega
 ·rintro pre x N W ⟨M,hi,hN,h2,h3,h4,hl,hd⟩ ge;have ga:w.heap.size+1<W.heap.size:=(Array.getElem?_eq_some_iff.1 hl).1;have hy:=run_yield (P:=P) (args:=encs x) hl (hps x);refine⟨fn,_,assign,body,hy,roundIn_of_wpIn go (hassign _ pre x M W _ hi ?_)⟩;intro a' Wa g0 gt;have gk:=(g0.keep _ ga (fun h=>h)).trans hl;have gq:=(g0.keep _ (by omega) (fun h=>h)).trans hd;have g6:w.heap.size+1<Wa.heap.size:=by have:=g0.size;omega
  refine⟨_,run_beginRound gk rfl,?_⟩;have gm:I pre M Wa:=hMi _ _ _ _ hi (g0.mono (fun _ h=>h.elim));have g8:Wr (· = w.heap.size+1) Wa (Wa.putObj (w.heap.size+1) (.loop { rec0 .ready with state:=.busy })):=(Wr.refl (· = w.heap.size+1) Wa).putObj (l:=w.heap.size+1) (.inl rfl) _;have gl:I pre M (Wa.putObj (w.heap.size+1) (.loop { rec0 .ready with state:=.busy })):=hMi _ _ _ _ gm (g8.mono (fun k e=>by have e':k=w.heap.size+1:=e;subst e';exact⟨by omega,h2⟩));have gj:(Wa.putObj (w.heap.size+1) (.loop { rec0 .ready with state:=.busy })).heap[w.heap.size+1]?=some (.loop { rec0 .ready with state:=.busy }):=World.putObj_heap_same g6;have gp:(Wa.putObj (w.heap.size+1) (.loop { rec0 .ready with state:=.busy })).heap[w.heap.size]?=some (.deferred (some [])):=(World.putObj_heap_other (by omega)).trans gq;refine wpIn_mono (hbody _ pre x a' M W _ gl (hAx _ _ _ _ _ _ ga gt g8) (by simp;exact g0.size) (by omega) ge) ?_;intro e a3 W3 hp;cases e with
  | normal =>
    obtain⟨M',gn,g4,g3⟩:=hp;have gc:=(g4.keep _ (by simp;exact g6) (fun e=>by rcases e with e|e;exact h2 e;omega)).trans gj;have gr:=(g4.keep _ (by simp;omega) (fun e=>by rcases e with e|e;exact h3 e;omega)).trans gp;have gg:=(Array.getElem?_eq_some_iff.1 gc).1;have g9:¬ M' (w.heap.size+1):=fun e=>by rcases g3 _ e with h|h;exact h2 h;omega
    have gi:¬ M' w.heap.size:=fun e=>by rcases g3 _ e with h|h;exact h3 h;omega
    refine⟨_,_,run_endRound (P:=P) none gc,rfl,fun k=>M' k\/k=w.heap.size+1\/k=w.heap.size,⟨M',?_,fun k=>Iff.rfl,g9,gi,?_,World.putObj_heap_same gg,(World.putObj_heap_other (by omega)).trans gr⟩,?_,?_⟩
    . exact hMi _ _ _ _ gn ((Wr.refl _ _).putObj (.inl ⟨by omega,g9⟩) _)
    ·intro k hk;rcases g3 k hk with h|h
     . exact h4 k h
     . right;omega
    ·refine((((g0.mono (N:=N) (fun _ h=>h.elim)).putObj (l:=w.heap.size+1) (.inl ((hN _).2 (.inr (.inl rfl)))) _).trans (N:=N) g4 (fun k _ h=>h) (fun k hk h=>?_)).putObj (l:=w.heap.size+1) (.inl ((hN _).2 (.inr (.inl rfl)))) _);rcases h with h|h
     . exact(hN k).2 (.inl h)
     . omega
    ·rintro k (hk|hk)
     ·rcases g3 k hk with h|h
      . exact .inl ((hN k).2 (.inl h))
      . exact .inr h
     . exact .inl ((hN k).2 (.inr hk))
  | ret=>exact hp.elim
  | exit id=>exact hp.elim
  | goto t=>exact hp.elim
  | panic ch=>exact hp.elim
  | outgrown=>exact hp.elim
 . exact⟨M0,gv,fun k=>Iff.rfl,fun e=>by have:=(g2 _ e).2;omega,fun e=>by have:=(g2 _ e).2;omega,fun k h=>.inl h,gu,gw⟩
 ·rintro e W2 ⟨⟨v,rfl⟩,xs,N,g7,⟨M,hi,hN,h2,h3,h4,hl,hd⟩,gh,_⟩;refine⟨none,_,run_endLoop (P:=P) hl (by simp[rec0]),hdone xs _ M _ g7 (Nat.le_refl _) h3 ?_ h4 ?_ ((World.putObj_heap_other (by omega)).trans hd)⟩
  . exact hMi _ _ _ _ hi ((Wr.refl _ _).putObj (.inl ⟨by omega,h2⟩) _)
  . exact((g5 (fun k=>n₀<=k)).trans gh (fun _ _ h=>h) (fun _ _ h=>h)).putObj (.inl (by omega)) _
end
end Go.Proofs.YtkidaindpahefaaGreat

namespace Go.Proofs.YtkidaindpahefaaGreat
open Go.Proofs.Tryz
open Go.RowKit Go.Shelf
open Go.ChangeMaps (setBlock)
def Zdi (q:Nat×Nat):List Value:=[.int .i64 q.1,.int .i64 q.2]
theorem Zjm {α β:Type}{f:α->β}{l:List α}(h:(l.map f).Nodup):l.Nodup:=(List.pairwise_map.1 h).imp fun hne e=>hne (congrArg f e)
def Ydj:Value->Nat
 | .int _ n=>n.toNat
 | _=>0
def unE:Value->Nat×Nat
 | .agg cs=>(Ydj (cs.getD 0 undef),Ydj (cs.getD 1 undef))
 | _=>(0,0)
theorem Ydi (q:Nat×Nat):unE (encE q)=q:=by simp[unE,encE,Ydj]
structure Zkc (es:Array MapEntry)(clock:Nat)(seen:Array Nat)(ks:List (Nat×Nat))(sl:List MapEntry):Prop where
 sub:∀ e∈sl,e∈es.toList
 born:sl.map (·.born)=seen.toList
 nodup:(sl.map (·.born)).Nodup
 keys:sl.map (·.key)=ks.map encE
theorem Zkc.start (es:Array MapEntry)(clock:Nat):Zkc es clock #[] [] []:=⟨fun _ h=>(by cases h),rfl,List.nodup_nil,rfl⟩
theorem Zkc.next {es:Array MapEntry}{clock:Nat}{seen:Array Nat}{ks:List (Nat×Nat)}{sl:List MapEntry}(h:Zkc es clock seen ks sl){e:MapEntry}(he:e∈(leftOf es seen).toList){q:Nat×Nat}(hq:e.key=encE q):Zkc es clock (seen.push e.born) (ks++[q]) (sl++[e]):=by
 obtain⟨h1,h2⟩:=mem_left he;refine⟨fun x hx=>?_,by simp[h.born],?_,by simp[h.keys,hq]⟩
 ·rcases List.mem_append.1 hx with hx|hx
  . exact h.sub x hx
  . simp at hx;subst hx;exact h1
 ·rw[List.map_append,List.nodup_append];refine⟨h.nodup,by simp,fun a ha b hb=>?_⟩;simp at hb;subst hb;rintro rfl;rw[h.born] at ha;have:seen.contains e.born=true:=by simpa using ha
  rw[this] at h2;cases h2
theorem Zkc.all {es:Array MapEntry}{clock:Nat}{seen:Array Nat}{ks:List (Nat×Nat)}{sl:List MapEntry}(h:Zkc es clock seen ks sl)(hn:(es.toList.map (·.born)).Nodup)(h0:(leftOf es seen).size=0):sl.Perm es.toList:=by
 have g0:=all_seen es seen h0;refine(List.perm_ext_iff_of_nodup (Zjm h.nodup) (Zjm hn)).2 fun e=>⟨h.sub e,fun he=>?_⟩
 have h1:=g0 e he;have h2:e.born∈sl.map (·.born):=by rw[h.born];simpa using h1
 obtain⟨x,hx,e1⟩:=List.mem_map.1 h2;have:x=e:=born_inj hn (h.sub x hx) he e1;rw[<- this];exact hx
theorem Zkc.keysOf {w:World}{b:Nat}{l:List ((Nat×Nat)×Value)}{es:Array MapEntry}{clock:Nat}{seen:Array Nat}{ks:List (Nat×Nat)}{sl:List MapEntry}(h:Zkc es clock seen ks sl)(hn:(es.toList.map (·.born)).Nodup)(h0:(leftOf es seen).size=0)
 (hl:es.toList.map (fun e=>(e.key,e.val))=l.map (fun p=>(encE p.1,p.2))):ks.Perm (l.map Prod.fst):=by
 have h1:(ks.map encE).Perm ((l.map Prod.fst).map encE):=by
  rw[<- h.keys];have h2:=(h.all hn h0).map (fun e:MapEntry=>e.key);refine h2.trans ?_;have h3:=congrArg (List.map Prod.fst) hl;simp only[List.map_map] at h3;have e1:(es.toList.map fun e:MapEntry=>e.key)=(l.map Prod.fst).map encE:=by
   rw[List.map_map];exact h3
  rw[e1]
 have h2:=h1.map unE;simpa [List.map_map,Function.comp_def,Ydi] using h2
theorem Ycx:(prog.info? 280).map (fun i=>(i.zero,i.size,i.bytes))=some (some (.agg #[.int .i64 0,.int .i64 0]),2,16):=by kernel_rfl
structure KeyS (W0:World)(mb r clock:Nat)(es:Array MapEntry)(seen:Array Nat)(ks:List (Nat×Nat))(sl:List MapEntry)(v:Value)(oG:Own)(wr:World):Prop where
 low:Below W0.heap.size W0 wr
 it:wr.heap[r]?=some (.mapIter (some mb) clock seen clock)
 came:Zkc es clock seen ks sl
 row:RowR oG wr .slots 280 2 v ks.length (ks.flatMap Zdi)
 lt:Zah oG wr
 ge:∀ k q,oG k=some q->q=.slots/\W0.heap.size<=k
 no:oG r=none
 cnt:ks.length+(leftOf es seen).size<=es.size
theorem KeyS.next {W0:World}{mb r clock:Nat}{es:Array MapEntry}{seen:Array Nat}{ks:List (Nat×Nat)}{sl:List MapEntry}{v v':Value}{oG o1:Own}{wr w1 w2 w3 w4:World}(h:KeyS W0 mb r clock es seen ks sl v oG wr)(hr0:W0.heap.size<=r){e:MapEntry}(he:e∈(leftOf es seen).toList){q:Nat×Nat}(hq:e.key=encE q)
 (hw1:w1=wr\/w1=wr.drew) (hw2:w2=setBlock w1 r (.mapIter (some mb) clock (seen.push e.born) clock)) (hb3:Below w2.heap.size w2 w3)
 (hr:RowR o1 w4 .slots 280 2 v' (ks.length+1) (ks.flatMap Zdi++Zdi q)) (hc:Chg (· = .slots) oG o1 w3 w4) (hl:Zah o1 w4) :
 KeyS W0 mb r clock es (seen.push e.born) (ks++[q]) (sl++[e]) v' o1 w4:=by
 have g0:r<wr.heap.size:=(Array.getElem?_eq_some_iff.1 h.it).1;have z2:w2.heap.size=wr.heap.size:=by rw[hw2];rcases hw1 with rfl|rfl<;>simp[setBlock]
 have i2:w2.heap[r]?=some (.mapIter (some mb) clock (seen.push e.born) clock):=by rw[hw2];rcases hw1 with rfl|rfl<;>simp[setBlock,g0]
 have k2:∀ g,g≠r->w2.heap[g]?=wr.heap[g]?:=fun g hg=>by
  rw[hw2];rcases hw1 with rfl|rfl<;>simp[setBlock,Array.getElem?_setIfInBounds,Ne.symm hg]<;>rfl
 have b2:Below W0.heap.size W0 w2:=h.low.trans ⟨by rw[hw2];rcases hw1 with rfl|rfl<;>rfl,by rw[hw2];rcases hw1 with rfl|rfl<;>rfl,by rw[hw2];rcases hw1 with rfl|rfl<;>rfl,by omega,fun g hg=>k2 g (by omega)⟩;have nn:∀ g,g<W0.heap.size->oG g=none:=fun g hg=>by
  cases eo:oG g with
  | none=>rfl
  | some r=>have:=(h.ge g r eo).2;omega
 have s0:=h.low.size;have b3:=b2.trans (hb3.mono (by omega));refine⟨b3.trans ⟨hc.os,hc.tape,hc.output,hc.size,fun g hg=>hc.alien (by have:=b3.size;omega) (nn g hg)⟩,?_,h.came.next he hq,by simpa using hr,hl,fun g q hg=>?_,hc.alien' (by have:=hb3.size;omega) h.no,by have h1:=left_shrinks es seen e he;have h2:=h.cnt;simp;omega⟩
 . rw[hc.alien (by have:=hb3.size;omega) h.no,hb3.block r (by omega)];exact i2
 ·by_cases eo:o1 g=oG g
  . rw[eo] at hg;exact h.ge g q hg
  ·obtain⟨a1,p,a2,a3⟩:=hc.new g eo;rw[hg] at a2;cases a2
   have:=hb3.size;exact⟨a3,by omega⟩
theorem KeyS.row3 {W0:World}{mb r clock:Nat}{es:Array MapEntry}{seen:Array Nat}{ks:List (Nat×Nat)}{sl:List MapEntry}{v:Value}{oG:Own}{wr w1 w2 w3:World}(h:KeyS W0 mb r clock es seen ks sl v oG wr){x:Obj}(hw1:w1=wr\/w1=wr.drew)(hw2:w2=setBlock w1 r x)(hb3:Below w2.heap.size w2 w3) :
 RowR oG w3 .slots 280 2 v ks.length (ks.flatMap Zdi)/\Zah oG w3:=by
 have z2:w2.heap.size=wr.heap.size:=by rw[hw2];rcases hw1 with rfl|rfl<;>simp[setBlock]
 have k2:∀ g,g≠r->w2.heap[g]?=wr.heap[g]?:=fun g hg=>by
  rw[hw2];rcases hw1 with rfl|rfl<;>simp[setBlock,Array.getElem?_setIfInBounds,Ne.symm hg]<;>rfl
 refine⟨h.row.keep (fun g hg=>?_) (fun _ h=>h),h.lt.mono (by have:=hb3.size;omega)⟩;have h1:=h.lt g _ hg;rw[hb3.block g (by omega)];exact k2 g (by rintro rfl;rw[h.no] at hg;cases hg)
end Go.Proofs.YtkidaindpahefaaGreat

namespace Go.Proofs
open Go.Proofs.Tryz
open Go.Shelf
def Tryz.sortKeys_ren:Go.Shelf.Ren:=⟨fun|6=>269|15=>137|14=>273|28=>193|29=>194|20=>275|21=>276|22=>277|23=>278|24=>279|25=>280|26=>281|27=>282|46=>283|47=>238|48=>239|49=>284|50=>285|57=>286|n=>n,fun|22=>297|24=>280|25=>307|3=>3|39=>170|0=>0|53=>223|55=>163|4=>4|46=>217|45=>216|50=>88|5=>5|9=>9|66=>264|70=>268|76=>298|77=>137|n=>n,fun|n=>n⟩
theorem Tryz.sortKeys:Go.Proofs.SlLaysF0.n6 prog Tryz.sortKeys_ren:={
 mixed:=by kernel_rfl
 f6:=⟨Tryz.f269.name,by decide,func269.trans (congrArg some (by kernel_rfl))⟩
 f14:=⟨Tryz.f273.name,by decide,func273.trans (congrArg some (by kernel_rfl))⟩
 f15:=func137.trans (congrArg some (by kernel_rfl))
 f20:=⟨Tryz.f275.name,by decide,func275.trans (congrArg some (by kernel_rfl))⟩
 f21:=⟨Tryz.f276.name,by decide,func276.trans (congrArg some (by kernel_rfl))⟩
 f22:=⟨Tryz.f277.name,by decide,func277.trans (congrArg some (by kernel_rfl))⟩
 f23:=⟨Tryz.f278.name,by decide,func278.trans (congrArg some (by kernel_rfl))⟩
 f24:=⟨Tryz.f279.name,by decide,func279.trans (congrArg some (by kernel_rfl))⟩
 f25:=⟨Tryz.f280.name,by decide,func280.trans (congrArg some (by kernel_rfl))⟩
 f26:=⟨Tryz.f281.name,by decide,func281.trans (congrArg some (by kernel_rfl))⟩
 f27:=⟨Tryz.f282.name,by decide,func282.trans (congrArg some (by kernel_rfl))⟩
 f28:=func193.trans (congrArg some (by kernel_rfl))
 f29:=func194.trans (congrArg some (by kernel_rfl))
 f46:=⟨Tryz.f283.name,by decide,func283.trans (congrArg some (by kernel_rfl))⟩
 f47:=func238.trans (congrArg some (by kernel_rfl))
 f48:=func239.trans (congrArg some (by kernel_rfl))
 f49:=⟨Tryz.f284.name,by decide,func284.trans (congrArg some (by kernel_rfl))⟩
 f50:=⟨Tryz.f285.name,by decide,func285.trans (congrArg some (by kernel_rfl))⟩
 f57:=⟨Tryz.f286.name,by decide,func286.trans (congrArg some (by kernel_rfl))⟩
 t0:=underlying0
 a0:=Tryz.isAgg0
 z0:=Tryz.sizeOf0
 v0:=zeroValue0
 t3:=underlying3
 a3:=Tryz.isAgg3
 z3:=Tryz.sizeOf3
 v3:=zeroValue3
 t4:=underlying4
 a4:=Tryz.isAgg4
 z4:=Tryz.sizeOf4
 v4:=zeroValue4
 t5:=underlying5
 a5:=Tryz.isAgg5
 z5:=Tryz.sizeOf5
 v5:=zeroValue5
 t9:=underlying9
 a9:=Tryz.isAgg9
 z9:=Tryz.sizeOf9
 v9:=zeroValue9
 t22:=underlying297
 a22:=Tryz.isAgg297
 z22:=Tryz.sizeOf297
 v22:=zeroValue297
 t25:=underlying307
 a25:=Tryz.isAgg307
 z25:=Tryz.sizeOf307
 v25:=zeroValue307
 t39:=underlying170
 a39:=Tryz.isAgg170
 z39:=Tryz.sizeOf170
 v39:=zeroValue170
 t45:=underlying216
 a45:=Tryz.isAgg216
 z45:=Tryz.sizeOf216
 v45:=zeroValue216
 t46:=underlying217
 a46:=Tryz.isAgg217
 z46:=Tryz.sizeOf217
 v46:=zeroValue217
 t50:=underlying88
 a50:=Tryz.isAgg88
 z50:=Tryz.sizeOf88
 v50:=zeroValue88
 t53:=underlying223
 a53:=Tryz.isAgg223
 z53:=Tryz.sizeOf223
 v53:=zeroValue223
 t55:=underlying163
 a55:=Tryz.isAgg163
 z55:=Tryz.sizeOf163
 v55:=zeroValue163
 t66:=underlying264
 a66:=Tryz.isAgg264
 z66:=Tryz.sizeOf264
 v66:=zeroValue264
 t70:=underlying268
 a70:=Tryz.isAgg268
 z70:=Tryz.sizeOf268
 v70:=zeroValue268
 t76:=underlying298
 a76:=Tryz.isAgg298
 z76:=Tryz.sizeOf298
 v76:=zeroValue298
 t77:=underlying137
 a77:=Tryz.isAgg137
 z77:=Tryz.sizeOf137
 v77:=zeroValue137 }
def Tryz.cmpInt_ren:Go.Shelf.Ren:=⟨fun|5=>90|7=>138|n=>n,fun|22=>3|3=>3|4=>4|n=>n,fun|n=>n⟩
theorem Tryz.cmpInt:Go.Proofs.SlLaysC2.n5 prog Tryz.cmpInt_ren:={
 mixed:=by kernel_rfl
 f5:=⟨Tryz.f90.name,by decide,func90.trans (congrArg some (by kernel_rfl))⟩
 f7:=⟨Tryz.f138.name,by decide,func138.trans (congrArg some (by kernel_rfl))⟩
 t3:=underlying3
 a3:=Tryz.isAgg3
 z3:=Tryz.sizeOf3
 v3:=zeroValue3
 t4:=underlying4
 a4:=Tryz.isAgg4
 z4:=Tryz.sizeOf4
 v4:=zeroValue4
 t22:=underlying3
 a22:=Tryz.isAgg3
 z22:=Tryz.sizeOf3
 v22:=zeroValue3 }
def Tryz.cmpEdge_ren:Go.Shelf.Ren:=⟨fun|5=>271|7=>274|n=>n,fun|22=>101|3=>3|4=>4|n=>n,fun|n=>n⟩
theorem Tryz.cmpEdge:Go.Proofs.SlLaysC2.n5 prog Tryz.cmpEdge_ren:={
 mixed:=by kernel_rfl
 f5:=⟨Tryz.f271.name,by decide,func271.trans (congrArg some (by kernel_rfl))⟩
 f7:=⟨Tryz.f274.name,by decide,func274.trans (congrArg some (by kernel_rfl))⟩
 t3:=underlying3
 a3:=Tryz.isAgg3
 z3:=Tryz.sizeOf3
 v3:=zeroValue3
 t4:=underlying4
 a4:=Tryz.isAgg4
 z4:=Tryz.sizeOf4
 v4:=zeroValue4
 t22:=underlying101
 a22:=Tryz.isAgg101
 z22:=Tryz.sizeOf101
 v22:=zeroValue101 }
end Go.Proofs

namespace Go.Proofs.YtkidaindpahefaaGreat
open Go.Proofs.Tryz
open Go.RowKit Go.Shelf Go.Lib Go.Sort
def orI:List Int->Int
 | []=>0
 | z::zs=>if z=0 then orI zs else z
theorem Zz9 {zs:List Int}{k:Nat}(hk:k<zs.length):orI (zs.drop k)=if at0 zs k=0 then orI (zs.drop (k+1)) else at0 zs k:=by
 rw[Zax hk,List.drop_eq_getElem_cons hk];rfl
theorem Yd4 (a:Option Addr)(c:Nat)(zs:List Int)(w:World)(hz:Zav w a zs)(hl:zs.length<=1000000) :
 Calls prog 89 #[.slice a zs.length c] w fun x w'=>x=.returned (.int .i64 (orI zs))/\w'=w:=by
 have HZ:=Hd hz;clear hz
 go_enter func89,ntmps89
 go_wp2_with fail
 go_loopw [8] (fun s8 wr=>∃ k:Nat,k<=zs.length/\s8=.int .i64 k/\w=wr/\orI zs=orI (zs.drop k)) (fun s8 _=>zs.length-(intOf s8).toNat)
 case atStart=>exact⟨0,Nat.zero_le _,rfl,rfl,rfl⟩
 case round =>
  obtain⟨k,hk,rfl,rfl,ho⟩:=hrel
  by_cases g0:k<zs.length
  ·obtain⟨b,off,ha,hc⟩:=HZ.out.cells k g0;subst ha;have g2:(k:Int)<zs.length:=by omega
   have hs:=Zz9 g0
   by_cases h0:at0 zs k=0
   ·rw[if_pos h0] at hs;rw[h0] at hc;have HO:=Hd (ho.trans hs);clear ho hs h0;go_wp2_with fail;go_roundw
    case rel=>exact⟨k+1,by omega,by go_num,trivial,HO.out⟩
    case measure=>simp[intOf];omega
   ·rw[if_neg h0] at hs;have HO:=Hd (ho.trans hs);have g1:(at0 zs k == (0:Int))=false:=by simpa using h0
    clear ho hs h0
    generalize at0 zs k=z at hc g1 HO
    go_wp2_with fail;go_ret;exact⟨by rw[HO.out];rfl,rfl⟩
  ·obtain rfl:k=zs.length:=by omega
   have HO:Hid (orI zs=0):=by
    refine Hd ?_
    show _=_
    rw[ho];simp[orI]
   clear ho;go_wp2_with fail;go_ret;exact⟨by rw[HO.out];rfl,rfl⟩
def cfK (f:Nat×Nat->Option Nat)(x y:Nat×Nat):Int:=orI [compareInt ((f x).getD 0:Nat) ((f y).getD 0:Nat),compareInt x.1 y.1,compareInt x.2 y.2]
theorem ltK (f:Nat×Nat->Option Nat)(x y:Nat×Nat):ltOf (cfK f) x y=decide ((f x).getD 0<(f y).getD 0\/(f x).getD 0=(f y).getD 0/\(x.1<y.1\/x.1=y.1/\x.2<y.2)):=by
 unfold ltOf cfK
 generalize (f x).getD 0=a
 generalize (f y).getD 0=b
 obtain⟨x1,x2⟩:=x;obtain⟨y1,y2⟩:=y;have hc:∀ p q:Nat,compareInt (p:Int) (q:Int)=if p<q then -1 else if p=q then 0 else 1:=fun p q=>by
  unfold compareInt
  by_cases h1:p<q
  . rw[if_pos (by omega),if_pos h1]
  ·by_cases h2:p=q
   . rw[if_neg (by omega),if_neg (by omega),if_neg h1,if_pos h2]
   . rw[if_neg (by omega),if_pos (by omega),if_neg h1,if_neg h2]
 simp only[hc,orI]
 by_cases h1:a<b
 . simp[h1]
 ·by_cases h2:a=b
  ·subst h2
   by_cases h3:x1<y1
   . simp[h3]
   ·by_cases h4:x1=y1
    ·subst h4
     by_cases h5:x2<y2
     . simp[h5]
     ·by_cases h6:x2=y2
      . subst h6;simp
      . simp[h5,h6]
    . simp[h3,h4]
  . simp[h1,h2]
theorem swoK (f:Nat×Nat->Option Nat):SWO (ltOf (cfK f)) where
 irrefl x:=by rw[ltK];simp
 trans x y z h1 h2:=by rw[ltK] at *;simp at *;omega
 ntrans x y z h1 h2:=by rw[ltK] at *;simp at *;omega
theorem Zuc (f:Nat×Nat->Option Nat)(x y:Nat×Nat)(Bx t mb:Nat)(W:World)(cB:W.cell? ⟨Bx,0,none⟩=some (.pointer (some ⟨t,0,none⟩)))(cT:W.cell? ⟨t,0,none⟩=some (.map (some mb)))
 (hlk:∀ W' k,Below W.heap.size W W'->(Instr.lookup 228 (.map (some mb)) (.agg #[.int .i64 (k:Nat×Nat).1,.int .i64 k.2]) false).run prog W'=.ok (.int .i64 ((f k).getD 0:Nat)) W') :
 Calls prog 270 #[.agg #[.int .i64 x.1,.int .i64 x.2],.agg #[.int .i64 y.1,.int .i64 y.2],.pointer (some ⟨Bx,0,none⟩)] W fun e w'=>e=.returned (.int .i64 (cfK f x y))/\∃ q os',w'=grow (W.drewN q) os':=by
 obtain⟨W1,g2⟩:∃ W1,W1=(W.alloc (.cells #[.int .i64 x.1,.int .i64 x.2] 280)).alloc (.cells #[.int .i64 y.1,.int .i64 y.2] 280):=⟨_,rfl⟩;have g0:Below W.heap.size W W1:=by rw[g2];exact(Zae _ _).alloc (by simp) _
 have g5:W1.heap[W.heap.size]?=some (.cells #[.int .i64 x.1,.int .i64 x.2] 280 (0,0)):=by rw[g2];exact(Below.heap_alloc _ _ _ (by simp)).trans (heap_alloc_new W _)
 have g4:W1.heap[W.heap.size+1]?=some (.cells #[.int .i64 y.1,.int .i64 y.2] 280 (0,0)):=by
  rw[g2];have:=heap_alloc_new (W.alloc (.cells #[.int .i64 x.1,.int .i64 x.2] 280)) (.cells #[.int .i64 y.1,.int .i64 y.2] 280)
  rwa [World.size_alloc] at this
 obtain⟨x0,x1,_⟩:=cells2 g5;obtain⟨y0,y1,_⟩:=cells2 g4;have b1:=(g0.cell (p:=⟨Bx,0,none⟩) (Zab cB)).trans cB;have t1:=(g0.cell (p:=⟨t,0,none⟩) (Zab cT)).trans cT;obtain⟨i,hi⟩:∃ i:Int,i=compareInt ((f x).getD 0:Nat) ((f y).getD 0:Nat):=⟨_,rfl⟩;obtain⟨j,hj⟩:∃ j:Int,j=compareInt x.1 y.1:=⟨_,rfl⟩;obtain⟨k,hk⟩:∃ k:Int,k=compareInt x.2 y.2:=⟨_,rfl⟩;have g6:cfK f x y=orI [i,j,k]:=by unfold cfK;rw[hi,hj,hk]
 obtain⟨W2,g3⟩:∃ W2,W2=W1.drew.alloc (.cells #[.int .i64 i,.int .i64 j,.int .i64 k] 3):=⟨_,rfl⟩;have g1:Below W1.heap.size W1 W2:=by rw[g3];exact(Zag W1 1).alloc (Nat.le_refl _) _
 have lx0:=hlk W1.drew x (g0.trans ((Zag W1 1).mono g0.size));have ly0:=hlk W1.drew y (g0.trans ((Zag W1 1).mono g0.size));have lx2:=hlk W2 x (g0.trans (g1.mono g0.size));have ly2:=hlk W2 y (g0.trans (g1.mono g0.size));have x02:=(g1.cell (p:=⟨W.heap.size,0,none⟩) (Zab x0)).trans x0;have x12:=(g1.cell (p:=⟨W.heap.size,1,none⟩) (Zab x1)).trans x1;have y02:=(g1.cell (p:=⟨W.heap.size+1,0,none⟩) (Zab y0)).trans y0;have y12:=(g1.cell (p:=⟨W.heap.size+1,1,none⟩) (Zab y1)).trans y1;have b2:=(g1.cell (p:=⟨Bx,0,none⟩) (Zab b1)).trans b1;have t2:=(g1.cell (p:=⟨t,0,none⟩) (Zab t1)).trans t1;have HI:=Hd (fun w=>AnyG.cmp_Compare_int Tryz.cmpInt ((f x).getD 0:Nat) ((f y).getD 0:Nat) w);have HJ:=Hd (fun w=>AnyG.cmp_Compare_int Tryz.cmpEdge x.1 y.1 w);have HK:=Hd (fun w=>AnyG.cmp_Compare_int Tryz.cmpEdge x.2 y.2 w)
 have g8:Hid (Calls prog 89 #[.slice (some ⟨W1.drew.heap.size,0,none⟩) 3 3] W2 fun e w'=>e=.returned (.int .i64 (orI [i,j,k]))/\w'=W2):=Hd (Yd4 _ 3 [i,j,k] W2 ⟨by simp,fun q hq=>⟨_,0,rfl,by
  rw[Nat.zero_add,g3,cell_of_row _ _ _ _ _ _ (heap_alloc_new W1.drew _)];simp only[List.length_cons,List.length_nil] at hq
  match q,hq with
  | 0,_=>rfl
  | 1,_=>rfl
  | 2,_=>rfl⟩⟩ (by simp))
 have HW1:Hid (_=W1):=Hd g2.symm;have g7:Hid (_=W2):=Hd g3.symm;have g9:Hid (W2=grow (W.drewN 1) #[.cells #[.int .i64 x.1,.int .i64 x.2] 280,.cells #[.int .i64 y.1,.int .i64 y.2] 280,.cells #[.int .i64 i,.int .i64 j,.int .i64 k] 3]):=Hd (by rw[g3,g2,Zgv,Zgv,alloc_eq_grow,alloc_eq_grow,alloc_eq_grow,grow_grow,grow_grow];rfl);rw[<- hi] at HI;rw[<- hj] at HJ;rw[<- hk] at HK;rw[g6];clear g2 g3 g0 g1 hlk cB cT hi hj hk g6 g5 g4
 go_enter func270,ntmps270
 go_upto_region 1 with fail;rw[HW1.out];refine Zan (fun W:World=>W=W1.drew\/W=W2) false 26 [(0,false),(1,false),(2,false),(3,false),(4,false),(5,false),(6,false),(7,false),(8,false),(9,false),(10,false),(11,false),(13,false),(14,false),(15,false),(16,false),(18,false),(19,false),(20,false),(21,false),(12,true),(17,true),(22,true),(23,true),(24,true),(25,false)] (by kernel_rfl) (by kernel_rfl) (.inl rfl) ?_;simp only[planned,Zdd]
 iterate 20
  refine Zaj rfl ?_;apply Exists.intro;refine⟨fun w' hw=>?_,?_⟩
  ·rcases hw with rfl|rfl
   . go_simp;rfl
   ·go_simp
    all_goals (try rfl)
  simp only[Zai]
 refine Zbw (R:=fun v w'=>v=.int .i64 i/\w'=W1.drew) rfl (by go_simp;rfl) ((HI.out _).mono (fun e w' h=>⟨_,h.1,.inl h.2,rfl,h.2⟩)) ?_;rintro _ w' _ ⟨rfl,rfl⟩;simp only[Zai];refine Zbw (R:=fun v w'=>v=.int .i64 j/\w'=W1.drew) rfl (by go_simp;rfl) ((HJ.out _).mono (fun e w' h=>⟨_,h.1,.inl h.2,rfl,h.2⟩)) ?_;rintro _ w' _ ⟨rfl,rfl⟩;simp only[Zai];refine Zbw (R:=fun v w'=>v=.int .i64 k/\w'=W1.drew) rfl (by go_simp;rfl) ((HK.out _).mono (fun e w' h=>⟨_,h.1,.inl h.2,rfl,h.2⟩)) ?_;rintro _ w' _ ⟨rfl,rfl⟩;simp only[Zai];refine Zny rfl (fun K hK=>?_);unfold Oper.wp;go_simp;rw[Zgv,g7.out];refine hK _ _ (.inr rfl) ?_;refine Zbw (R:=fun v w'=>v=.int .i64 (orI [i,j,k])/\w'=W2) rfl (by go_simp) (g8.out.mono (fun e w' h=>⟨_,h.1,.inr h.2,rfl,h.2⟩)) ?_;rintro _ w' _ ⟨rfl,rfl⟩;simp only[Zai];refine Zaj rfl ?_;apply Exists.intro;refine⟨fun w' hw=>?_,?_⟩
 . go_simp;rfl
 simp only[Zai];refine Zdm ?_;go_wp2_with fail;go_ret;exact⟨rfl,_,_,g9.out⟩
open Go.RowKit
structure Zto (T ST:TypeId)(z:Value)(b:Nat):Prop where
 under:prog.underlying ST=some (.slice T)
 info:(prog.info? T).map (fun i=>(i.zero,i.size,i.bytes))=some (some z,1,b)
 one:z.cells=#[z]
 small:b<=100
theorem Znl:Zto 3 22 (.int .i64 0) 8:=⟨underlying22,by kernel_rfl,rfl,by omega⟩
theorem Zh6:Zto 4 90 (.bool false) 1:=⟨underlying90,by kernel_rfl,rfl,by omega⟩
theorem Yck:Zto 90 33 (.slice none 0 0) 24:=⟨underlying33,by kernel_rfl,rfl,by omega⟩
def OwnC (T:TypeId)(w:World)(base:Nat)(v:Value)(xs:List Value):Prop:=w.ownsRow base T 1 v xs.length xs
section
variable {T ST:TypeId}{z:Value}{b:Nat}{w w':World}{base:Nat}{v:Value}{xs:List Value}
theorem OwnC.alloc (h:OwnC T w base v xs)(o:Obj):OwnC T (w.alloc o) base v xs:=World.ownsRow.alloc h o
theorem OwnC.lt (h:OwnC T w base v xs):∀ k,v.ownBlock=some k->base<=k/\k<w.heap.size:=World.ownsRow.lt h
theorem OwnC.same (h:OwnC T w base v xs)(hk:∀ k,v.ownBlock=some k->w'.heap[k]?=w.heap[k]?):OwnC T w' base v xs:=by
 refine⟨h.1,?_⟩;rcases h.2 with hn|⟨g,cap,cur,rfl,hb,g0,rest⟩
 . exact .inl hn
 . refine .inr ⟨g,cap,cur,rfl,hb,?_,rest⟩;rw[hk g rfl];exact g0
theorem OwnC.below (h:OwnC T w base v xs)(hb:Below w.heap.size w w'):OwnC T w' base v xs:=h.same fun k hk=>hb.block k (h.lt k hk).2
theorem OwnC.shape (h:OwnC T w base v xs)(hp:0<xs.length):∃ g cap,v=.slice (some ⟨g,0,none⟩) xs.length cap/\base<=g/\g<w.heap.size:=by
 rcases h.2 with ⟨_,h0⟩|⟨g,cap,cur,hv,hg,hh,_⟩
 . omega
 . exact⟨g,cap,hv,hg,(Array.getElem?_eq_some_iff.1 hh).1⟩
theorem OwnC.slice (h:OwnC T w base v xs):∃ a cap,v=.slice a xs.length cap/\(a=none->cap=0):=by
 rcases h.2 with ⟨hv,h0⟩|⟨g,cap,cur,hv,hg,hh,_⟩
 . exact⟨none,0,by rw[hv,h0],fun _=>rfl⟩
 . exact⟨_,cap,hv,by simp⟩
theorem OwnC.cell {g cap n:Nat}(h:OwnC T w base (.slice (some ⟨g,0,none⟩) n cap) xs)(k:Nat)(hk:k<xs.length):w.cell? ⟨g,k,none⟩=xs[k]?:=by
 have hn:n=xs.length:=by
  rcases h.2 with ⟨hv,_⟩|⟨_,_,_,hv,_⟩
  . cases hv
  . cases hv;rfl
 subst hn;exact World.ownsRow.cellAt h k (by omega)
theorem OwnC.frozen {g cap n:Nat}(h:OwnC T w base (.slice (some ⟨g,0,none⟩) n cap) xs)(k:Nat):w.frozen? ⟨g,k,none⟩=false:=by
 rcases h.2 with ⟨hv,_⟩|⟨_,_,_,hv,_⟩
 . cases hv
 . cases hv;exact World.ownsRow.frozenAt h k
theorem OwnC.stored {g cap n:Nat}(h:OwnC T w base (.slice (some ⟨g,0,none⟩) n cap) xs)(k:Nat)(y:Value):OwnC T (w.setCell ⟨g,k,none⟩ y) base (.slice (some ⟨g,0,none⟩) n cap) (xs.set k y):=by
 rcases h.2 with ⟨hv,_⟩|⟨_,_,_,hv,_⟩
 . cases hv
 . cases hv;have:=(World.ownsRow.stored h k y).1;unfold OwnC;rw[List.length_set];exact this
theorem OwnC.typed (h:OwnC T w base v xs):∀ k,v.ownBlock=some k->∃ cur,w.heap[k]?=some (.cells cur T (0,0)):=by
 intro k hk;rcases h.2 with ⟨rfl,_⟩|⟨g,cap,cur,rfl,_,hg,_⟩
 . cases hk
 . cases hk;exact⟨cur,hg⟩
theorem Zfu (T:TypeId)(w:World)(base:Nat)(hb:base<=w.heap.size):OwnC T (w.alloc (.cells #[] T)) base (.slice (some ⟨w.heap.size,0,none⟩) 0 0) [] :=
 World.ownsRow_made w #[] 0 hb (by unfold maxLen;omega) (by simp)
theorem Zs1 (T:TypeId)(w:World)(base:Nat):OwnC T w base (.slice none 0 0) []:=World.ownsRow_nil w base T 1
theorem Zcr (E:Zto T ST z b)(wr:World){ops:Array Oper}{rest:List Oper}{o:Oper}{a:Act}{Q:Exit->Act->World->Prop}{W:World}(hgd:o.guard=none)(s x:Operand)
 (ho:o.op=.call { callee:=.builtin .append,args:=#[s,x],argTypes:=#[ST,ST] })
 (base:Nat) (v:Value) (xs:List Value) (y:Value) (hs:a.eval s=v) {N:Nat} (hx:a.eval x=.slice (some ⟨N,0,none⟩) 1 1)
 (hW:W=wr.alloc (.cells #[y] T)) (hN:N=wr.heap.size) (hy:y.oneCell'=true)
 (hown:OwnC T wr base v xs) (hlen:xs.length<1099511627776) (hbase:base<=wr.heap.size)
 (h:∀ v' w',OwnC T w' base v' (xs++[y])->w'.os=wr.os->w'.tape=wr.tape->w'.output=wr.output->wr.heap.size<=w'.heap.size->Zc0 v v' wr w'->wpList prog ops Q rest (a.put o.dst v') w') :
 wpList prog ops Q (o::rest) a W:=by
 obtain⟨i,hi,hz,g1,g3⟩:=info_parts E.info;subst hN;subst hW
 have g2:=E.small;refine wpList_append_own_at (w:=wr.alloc (.cells #[y] T)) hgd s x ST ho base T i z 1 b E.under hi hz g1 g3 (by rw[E.one];rfl) (by decide)
  v xs.length xs hs (hown.alloc _) ⟨wr.heap.size,0,none⟩ 1 1 [y] hx rfl (cell_one_new _ _ _) (by intro u hu;simp at hu;subst hu;exact hy) (by unfold maxLen;omega) (by
   have h1:(xs.length+1)*b<=1099511627776*100:=Nat.mul_le_mul (by omega) g2;omega) (by simp;omega) ?_
 intro v' w' h1 h2 _ g0;refine h v' w' ?_ h2.os h2.tape h2.output ?_ ⟨Zd7 h2,g0.imp id fun e=>⟨_,e,by simp⟩⟩
 . unfold OwnC;rw[List.length_append];exact h1
 . have:=h2.size;simp at this;omega
theorem Zh1 {w0 wr w':World}{v':Value}(hb:Below base w0 wr)(hown:OwnC T wr base v xs)(h1:w'.os=wr.os)(h2:w'.tape=wr.tape)(h3:w'.output=wr.output)(h4:wr.heap.size<=w'.heap.size)(hk:Zc0 v v' wr w')(hbase:base<=wr.heap.size):Below base w0 w' :=
 ⟨h1.trans hb.os,h2.trans hb.tape,h3.trans hb.output,Nat.le_trans hb.size h4,fun k hkb=>(hk.keep k (by omega) (fun e=>by have:=(hown.lt k e.symm).1;omega)).trans (hb.block k hkb)⟩
theorem Zq0 (E:Zto T ST z b){ops:Array Oper}{rest:List Oper}{o:Oper}{a:Act}{Q:Exit->Act->World->Prop}{wr:World}(hgd:o.guard=none)(l c:Operand)
 (ho:o.op=.makeSlice ST l c) (base:Nat) (w0:World) (L:Int) (n:Nat) (hl:a.eval l=.int .i64 L) (hc:a.eval c=.int .i64 L) (hL:L=n) (hn:n<1099511627776)
 (hbase:base<=wr.heap.size) (hb:Below base w0 wr)
 (h:∀ g w',OwnC T w' base (.slice (some ⟨g,0,none⟩) n n) (List.replicate n z)->Below base w0 w'->base<=w'.heap.size->Ze0 none wr w'->base<=g->g=wr.heap.size ->
  wpList prog ops Q rest (a.put o.dst (.slice (some ⟨g,0,none⟩) n n)) w') :
 wpList prog ops Q (o::rest) a wr:=by
 obtain⟨i,hi,hz,g0,g2⟩:=info_parts E.info;have g1:=E.small
 refine wpList_make_full wr hgd l c ST ho base T i z 1 E.under hi hz g0 .i64 .i64 L L n hl hc hL hL (by
  have h1:i.bytes*n<=100*1099511627776:=Nat.mul_le_mul (by omega) (by omega);omega) (by unfold maxLen;omega) hbase ?_
 intro w' h1 h2;refine h wr.heap.size w' ?_ (hb.grown h2 hbase (by simp)) (by have:=h2.size;omega) (Zcv h2) hbase rfl;unfold OwnC;have e1:List.replicate n z=(madeCells z.cells (n*1)).toList:=by
  rw[E.one];simp[madeCells];apply List.ext_getElem
  . simp
  . intro j h3 h4;simp[Nat.mod_one]
 rw[List.length_replicate,e1];exact h1
end
def Zbu (bs:List Bool):List Value:=bs.map Value.bool
theorem Zeb (bs:List Bool):(Zbu bs).length=bs.length:=by simp[Zbu]
theorem getElem?_boolsV {bs:List Bool}{k:Nat}(h:k<bs.length):(Zbu bs)[k]?=some (.bool (bs.getD k false)):=by
 simp[Zbu,List.getD,h]
abbrev OwnB (w:World)(base:Nat)(v:Value)(bs:List Bool):Prop:=OwnC 4 w base v (Zbu bs)
def Zc7 (w:World)(v:Value)(bs:List Bool):Prop:=∃ a c,v=.slice a bs.length c/\Zf2 w a bs/\(a=none->c=0)
theorem Zc7.below {w w':World}{v:Value}{bs:List Bool}(h:Zc7 w v bs)(hb:Below w.heap.size w w'):Zc7 w' v bs:=by
 obtain⟨a,c,rfl,h1,h2⟩:=h;exact⟨a,c,rfl,h1.below hb,h2⟩
theorem Zc7.same {w w':World}{v:Value}{bs:List Bool}(h:Zc7 w v bs)(hk:∀ k,v.ownBlock=some k->w'.heap[k]?=w.heap[k]?):Zc7 w' v bs:=by
 obtain⟨a,c,rfl,h1,h2⟩:=h;refine⟨a,c,rfl,⟨h1.len,fun k g0=>?_⟩,h2⟩;obtain⟨g,off,rfl,hc⟩:=h1.cells k g0;exact⟨g,off,rfl,(World.cell?_of_block (w:=w) (a:=⟨g,off+k,none⟩) (hk g rfl)).trans hc⟩
theorem OwnC.boolsIs {w:World}{base:Nat}{v:Value}{bs:List Bool}(h:OwnB w base v bs)(hl:bs.length<=1000000):Zc7 w v bs:=by
 obtain⟨a,c,hv,hn⟩:=h.slice;have g1:=hv;rw[Zeb] at g1;refine⟨a,c,g1,⟨hl,fun k hk=>?_⟩,hn⟩;obtain⟨g,cap,g0,hb,hg⟩:=h.shape (by rw[Zeb];omega);have ea:a=some ⟨g,0,none⟩:=by rw[hv] at g0;injection g0
 subst ea;refine⟨g,0,rfl,?_⟩;subst hv;rw[Nat.zero_add,h.cell k (by rw[Zeb];exact hk),getElem?_boolsV hk]
theorem OwnC.setB {w:World}{base g cap n:Nat}{bs:List Bool}(h:OwnB w base (.slice (some ⟨g,0,none⟩) n cap) bs)(k:Nat)(y:Bool):OwnB (w.setCell ⟨g,k,none⟩ (.bool y)) base (.slice (some ⟨g,0,none⟩) n cap) (bs.set k y):=by
 have:=h.stored k (.bool y);unfold OwnB;rw[show Zbu (bs.set k y)=(Zbu bs).set k (.bool y) by simp[Zbu,List.map_set]];exact this
theorem OwnC.cellB {w:World}{base g cap n:Nat}{bs:List Bool}(h:OwnB w base (.slice (some ⟨g,0,none⟩) n cap) bs)(k:Nat)(hk:k<bs.length):w.cell? ⟨g,k,none⟩=some (.bool (bs.getD k false)):=by
 rw[h.cell k (by rw[Zeb];exact hk),getElem?_boolsV hk]
open Go.RowKit
def bitB (i v:Nat):Bool:=decide (i/2^v%2=1)
def Zdk (i n:Nat):List Bool:=(List.range n).map (bitB i)
def tabB (n:Nat)(F:BF):List Bool:=(List.range (2^n)).map fun i=>F (Zcn (Zdk i n))
theorem Zeu (i n:Nat):(Zdk i n).length=n:=by simp[Zdk]
theorem Zhx (n:Nat)(F:BF):(tabB n F).length=2^n:=by simp[tabB]
theorem Zj6 {n:Nat}{F:BF}{i:Nat}(hi:i<2^n):(tabB n F).getD i false=F (Zcn (Zdk i n)):=by simp[tabB,List.getD,hi]
theorem Zt1 {i n v:Nat}:Zcn (Zdk i n) v=(decide (v<n)&&bitB i v):=by
 unfold Zcn Zdk
 by_cases h:v<n
 . simp[List.getD,h]
 . simp[List.getD,h]
theorem Ydg {bs:List Bool}{n:Nat}{F:BF}(hl:bs.length=2^n)(h:∀ i,i<2^n->bs.getD i false=F (Zcn (Zdk i n))):bs=tabB n F:=by
 refine List.ext_getElem (by rw[hl,Zhx]) fun i h1 h2=>?_
 have:=h i (by omega);have e:(tabB n F).getD i false=F (Zcn (Zdk i n)):=Zj6 (by omega);rw[<- this] at e;simpa [List.getD,h1,h2] using e.symm
theorem Zik {k:Nat}(h:k<=20):2^k<=1048576:=Nat.pow_le_pow_right (by omega) h
theorem Yca (v:Nat)(hv:v<=20)(w:World):Calls prog 158 #[.int .i64 v] w fun x w'=>x=.returned (.int .i64 (2^v:Nat))/\w=w':=by
 have HS:Hid (∀ k,k<=v->2^k<=1048576):=Hd fun k hk=>Zik (by omega)
 go_enter func158,ntmps158
 go_wp2_with fail
 go_loopw [3,4] (fun s3 s4 wr=>∃ k p:Nat,k<=v/\s3=.int .i64 p/\s4=.int .i64 k/\w=wr/\Hid (2^k=p)) (fun _ s4 _=>v-(intOf s4).toNat)
 case atStart=>exact⟨0,1,Nat.zero_le _,rfl,rfl,rfl,Hd rfl⟩
 case round =>
  obtain⟨k,p,hk,rfl,rfl,rfl,HP⟩:=hrel
  by_cases g0:k<v
  ·have hp:p<=1048576:=by rw[<- HP.out];exact HS.out k hk
   go_wp2_with fail;go_roundw
   case rel=>exact⟨k+1,2*p,by omega,by go_num,by go_num,by simp,Hd (by rw[Nat.pow_succ,HP.out];omega)⟩
   case measure=>simp[intOf];omega
  ·have he:k=v:=by omega
   have HE:Hid (2^v=p):=by rw[<- he];exact HP
   clear he;go_wp2_with fail;go_ret;exact⟨by rw[HE.out];rfl,rfl⟩
theorem Zog {α:Type}(a b:α)(k n:Nat)(h:k<n):(List.replicate k a++List.replicate (n-k) b).set k a=List.replicate (k+1) a++List.replicate (n-(k+1)) b:=by
 have e:n-k=(n-(k+1))+1:=by omega
 rw[e,List.replicate_succ,List.set_append_right _ _ (by simp),List.length_replicate,Nat.sub_self,List.set_cons_zero,List.replicate_succ',List.append_assoc];rfl
theorem Zqc (b:Bool)(n:Nat)(hn:n<=16)(w:World):Calls prog 124 #[.bool b,.int .i64 n] w fun x w'=>∃ g,x=.returned (.slice (some ⟨g,0,none⟩) (2^n) (2^n))/\OwnB w' w.heap.size (.slice (some ⟨g,0,none⟩) (2^n) (2^n)) (List.replicate (2^n) b)/\Below w.heap.size w w':=by
 have HS:Hid (∀ k,k<=n->2^k<=1048576):=Hd fun k hk=>Zik (by omega)
 obtain⟨L,hL⟩:∃ L,L=2^n:=⟨_,rfl⟩;have HL:=Hd hL;have g8:L<=1048576:=by rw[hL];exact Zik (by omega)
 rw[<- hL];clear hL
 go_enter func124,ntmps124
 go_wp2_with fail
 go_loopw [5,6] (fun s5 s6 wr=>∃ k p:Nat,k<=n/\s5=.int .i64 p/\s6=.int .i64 k/\w=wr/\Hid (2^k=p)) (fun _ s6 _=>n-(intOf s6).toNat)
 case atStart=>exact⟨0,1,Nat.zero_le _,rfl,rfl,rfl,Hd rfl⟩
 case round =>
  obtain⟨k,p,hk,rfl,rfl,rfl,HP⟩:=hrel
  by_cases g3:k<n
  ·have hp:p<=1048576:=by rw[<- HP.out];exact HS.out k hk
   go_wp2_with fail;go_roundw
   case rel=>exact⟨k+1,2*p,by omega,by go_num,by go_num,by simp,Hd (by rw[Nat.pow_succ,HP.out];omega)⟩
   case measure=>simp[intOf];omega
  ·have he:k=n:=by omega
   have hp:p=L:=by rw[<- HP.out,he,HL.out]
   subst hp;clear he;go_wp2_with (at_make;refine Zq0 Zh6 rfl _ _ rfl w.heap.size w _ p rfl rfl rfl (by omega) (Nat.le_refl _) (Below.refl _ _) ?_;intro g w1 g2 g6 hs1 g7 g5 g4;clear g4)
   go_loopw [8] (fun i wr=>∃ j:Nat,j<=p/\i=.int .i64 j/\OwnB wr w.heap.size (.slice (some ⟨g,0,none⟩) p p) (List.replicate j b++List.replicate (p-j) false)/\Below w.heap.size w wr) (fun i _=>p-(intOf i).toNat)
   case atStart=>exact⟨0,by omega,rfl,by unfold OwnB;rw[show Zbu (List.replicate 0 b++List.replicate (p-0) false)=List.replicate p (Value.bool false) by simp[Zbu]];exact g2,g6⟩
   case round =>
    obtain⟨j,hj,rfl,g0,g1⟩:=hrel
    by_cases g3:j<p
    ·have q0:=g0.cellB j (by simp;omega);have p0:=g0.frozen j;go_wp2_with fail;go_roundw
     case rel=>exact⟨j+1,by omega,by go_num,by rw[<- Zog b false j p g3];exact g0.setB j b,g1.setCell g5 _⟩
     case measure=>simp[intOf];omega
    ·obtain rfl:j=p:=by omega
     go_wp2_with fail;go_ret;exact⟨_,rfl,by simpa using g0,g1⟩
theorem Zt6 (n:Nat)(hn:n<=64)(w:World):Calls prog 176 #[.int .i64 n,.int .i64 0,.int .i64 64] w fun x w'=>x=.returned (.int .i64 n)/\w=w':=by
 go_enter func176,ntmps176
 go_wp2_with fail;go_ret;exact⟨rfl,rfl⟩
theorem Zl8 (i n:Nat):Zdk i (n+1)=Zdk i n++[bitB i n]:=by simp[Zdk,List.range_succ]
open Go.RowKit
section
variable {K:Law}{n:Nat}{Od:List Nat->Prop}{room:Nat}{w0 w:World}{mb:Nat}{fs:List (Int×BF)}{nx:Int}{o:Own}{m:ManD}{V:Nat->BF}
theorem SatE.eval (h:SatE K n Od room w0 mb fs nx w o m V){k:Int}{F:BF}(hk:(k,F)∈fs){v:Value}{bs:List Bool}(hbs:Zc7 w v bs) :
 Calls prog 125 #[.pointer (some ⟨mb,0,none⟩),.int .i64 k,v] w fun x w'=>x=.returned (.tuple #[.bool (F (Zcn bs)),.int .i64 0])/\Below w.heap.size w w':=by
 obtain⟨f,hf,e1⟩:=h.find hk;obtain⟨a,c,rfl,h1,_⟩:=hbs;rw[<- e1];exact Zzj h.is h.lt h.ok hf a c bs h1
theorem SatE.vars_any (h:SatE K n Od room w0 mb fs nx w o m V):Calls prog 62 #[.pointer (some ⟨mb,0,none⟩)] w fun x w'=>x=.returned (.int .i64 n)/\w=w':=by
 have:=Zkv h.is;rw[h.vars] at this;exact this
theorem SatE.handles_any (h:SatE K n Od room w0 mb fs nx w o m V):Calls prog 73 #[.pointer (some ⟨mb,0,none⟩)] w fun x w'=>x=.returned (.int .i64 (fs.length:Nat))/\w=w':=by
 have e:fs.length=m.hs.length:=by rw[<- h.hs,List.length_map]
 rw[e];exact Go.Proofs.YtkidaindpahefaaGreat.Ycv h.is
theorem Zzz (h:SatE K n Od room w0 mb fs nx w o m V)(q:Nat)(hq:q<=1000000) :
 Calls prog 29 #[.pointer (some ⟨mb,0,none⟩),.int .i64 q] w fun x w'=>x=.returned (.bool (decide (fs.length=q+2)))/\w=w':=by
 have HH:=Hd h.handles_any;have HF:Hid ((((fs.length:Nat):Int) == (q:Int)+2)=decide (fs.length=q+2)):=by
  refine Hd ?_
  show (((fs.length:Nat):Int) == (q:Int)+2)=_
  by_cases e:fs.length=q+2
  . rw[decide_eq_true e,beq_iff_eq];omega
  . rw[decide_eq_false e,beq_eq_false_iff_ne];omega
 clear h
 go_enter func29,ntmps29
 go_wp2_with fail;refine HH.out.mono ?_;rintro x w' ⟨rfl,rfl⟩;go_wp2_with fail;go_ret;exact⟨by rw[<- HF.out];rfl,rfl⟩
theorem Zzf (i:Nat)(hi:i<=1048576):(IntKind.u64).wrap (i:Int)=(i:Int):=by
 simp[IntKind.wrap,IntKind.bits];omega
end
structure Zsf (P:Nat->Prop)(w:World)(a:Option Addr)(us:List (List Bool)):Prop where
 len:us.length<=1000000
 cells:∀ k,k<us.length->∃ b off v,a=some ⟨b,off,none⟩/\w.cell? ⟨b,off+k,none⟩=some v/\Zc7 w v (us.getD k [])/\∀ g,v.ownBlock=some g->P g
theorem Zsf.below {P:Nat->Prop}{w w':World}{a:Option Addr}{us:List (List Bool)}(h:Zsf P w a us)(hb:Below w.heap.size w w'):Zsf P w' a us :=
 ⟨h.len,fun k hk=>by
  obtain⟨b,off,v,rfl,hc,hv,hp⟩:=h.cells k hk;exact⟨b,off,v,rfl,(hb.cell (p:=⟨b,off+k,none⟩) (Zab hc)).trans hc,hv.below hb,hp⟩⟩
structure LawR (P:Nat->Prop)(n:Nat)(fs:List (Int×BF))(w:World)(vl vx:Value)(hs:List (Int×BF)):Prop where
 sub:∀ p∈hs,p∈fs
 small:hs.length<=1000
 l:∃ a c,vl=.slice a hs.length c/\Zav w a (hs.map Prod.fst)
 x:∃ a c,vx=.slice a hs.length c/\Zsf P w a (hs.map fun p=>tabB n p.2)
open Go.RowKit
structure LawL (W:World)(o:Own)(base:Nat)(vl:Value)(ks:List Int):Prop where
 own:OwnC 3 W base vl (Za0 ks)
 no:∀ k,vl.ownBlock=some k->o k=none
structure LawB (W:World)(o:Own)(base:Nat)(v:Value)(bs:List Bool):Prop where
 is:Zc7 W v bs
 no:∀ k,v.ownBlock=some k->base<=k/\k<W.heap.size/\o k=none/\∃ cur,W.heap[k]?=some (.cells cur 4 (0,0))
structure LawX (W:World)(o:Own)(base:Nat)(vx:Value)(us:List (List Bool)):Prop where
 ex:∃ rs:List Value,rs.length=us.length/\OwnC 90 W base vx rs/\∀ i v,rs[i]?=some v->LawB W o base v (us.getD i [])
 no:∀ k,vx.ownBlock=some k->o k=none
section
variable {W W':World}{o o':Own}{base:Nat}{vl vx v:Value}{ks:List Int}{us:List (List Bool)}{bs:List Bool}
theorem LawL.chg (h:LawL W o base vl ks)(hc:ChgX NoB o o' W W'):LawL W' o' base vl ks :=
 ⟨h.own.same fun k hk=>hc.block k (h.own.lt k hk).2 (h.no k hk) (fun e=>e),fun k hk=>hc.none' (h.own.lt k hk).2 (h.no k hk)⟩
theorem LawB.chg (h:LawB W o base v bs)(hc:ChgX NoB o o' W W'):LawB W' o' base v bs :=
 ⟨h.is.same fun k hk=>hc.block k (h.no k hk).2.1 (h.no k hk).2.2.1 (fun e=>e),fun k hk=>by
  obtain⟨h1,h2,h3,cur,h4⟩:=h.no k hk;exact⟨h1,Nat.lt_of_lt_of_le h2 hc.size,hc.none' h2 h3,cur,(hc.block k h2 h3 (fun e=>e)).trans h4⟩⟩
theorem LawX.chg (h:LawX W o base vx us)(hc:ChgX NoB o o' W W'):LawX W' o' base vx us:=by
 obtain⟨rs,h1,h2,h3⟩:=h.ex;exact⟨⟨rs,h1,h2.same fun k hk=>hc.block k (h2.lt k hk).2 (h.no k hk) (fun e=>e),fun i v hv=>(h3 i v hv).chg hc⟩,fun k hk=>hc.none' (h2.lt k hk).2 (h.no k hk)⟩
theorem Zc2 (hb:Below W.heap.size W W')(o:Own):ChgX NoB o o W W':=ChgX.of_below hb o NoB
theorem LawL.typ {C:Nat->Prop}(h:LawL W o base vl ks)(hw:Wr C W W'){T:TypeId}(hT:T≠3)(hC:∀ k,C k->∃ cur,W.heap[k]?=some (.cells cur T (0,0))):LawL W' o base vl ks :=
 ⟨h.own.same fun k hk=>hw.keep k (h.own.lt k hk).2 fun e=>by
  obtain⟨c1,h1⟩:=hC k e;obtain⟨c2,h2⟩:=h.own.typed k hk;rw[h1] at h2;cases h2;exact hT rfl,h.no⟩
theorem LawB.typ {C:Nat->Prop}(h:LawB W o base v bs)(hw:Wr C W W'){T:TypeId}(hT:T≠4)(hC:∀ k,C k->∃ cur,W.heap[k]?=some (.cells cur T (0,0))):LawB W' o base v bs:=by
 have hk:∀ k,v.ownBlock=some k->W'.heap[k]?=W.heap[k]?:=fun k hk=>by
  obtain⟨h1,h2,h3,cur,h4⟩:=h.no k hk;exact hw.keep k h2 fun e=>by
   obtain⟨c1,q1⟩:=hC k e;rw[q1] at h4;cases h4;exact hT rfl
 exact⟨h.is.same hk,fun k g0=>by
  obtain⟨h1,h2,h3,cur,h4⟩:=h.no k g0;exact⟨h1,Nat.lt_of_lt_of_le h2 hw.size,h3,cur,(hk k g0).trans h4⟩⟩
theorem LawX.typ {C:Nat->Prop}(h:LawX W o base vx us)(hw:Wr C W W'){T:TypeId}(hT:T≠4)(hT2:T≠90)(hC:∀ k,C k->∃ cur,W.heap[k]?=some (.cells cur T (0,0))):LawX W' o base vx us:=by
 obtain⟨rs,h1,h2,h3⟩:=h.ex
 exact⟨⟨rs,h1,h2.same fun k hk=>hw.keep k (h2.lt k hk).2 fun e=>by
  obtain⟨c1,q1⟩:=hC k e;obtain⟨c2,q2⟩:=h2.typed k hk;rw[q1] at q2;cases q2;exact hT2 rfl,fun i v hv=>(h3 i v hv).typ hw hT hC⟩,h.no⟩
theorem Zq2 {v':Value}(h1:W'.os=W.os)(h2:W'.tape=W.tape)(h3:W'.output=W.output)(h4:W.heap.size<=W'.heap.size)(hk:Zc0 v v' W W'):Wr (fun k=>v.ownBlock=some k) W W' :=
 ⟨h1,h2,h3,h4,fun k hlt hn=>hk.keep k hlt (fun e=>hn e.symm)⟩
theorem LawL.app {v':Value}{k:Int}(h:LawL W o base vl ks)(hlt:Zah o W)(hn:OwnC 3 W' base v' (Za0 ks++[.int .i64 k]))(hk:Zc0 vl v' W W'):LawL W' o base v' (ks++[k]):=by
 refine⟨by rw[show Za0 (ks++[k])=Za0 ks++[.int .i64 k] by simp[Za0]];exact hn,fun q hq=>?_⟩;rcases hk.loc with e|⟨g,e,hg⟩
 . exact h.no q (by rw[<- e];exact hq)
 . rw[e] at hq;cases hq;exact hlt.none hg
theorem LawX.app {v':Value}(h:LawX W o base vx us)(hlt:Zah o W){rs:List Value}(hrs:rs.length=us.length)(hall:∀ i v,rs[i]?=some v->LawB W o base v (us.getD i []))(hw:Wr (fun k=>vx.ownBlock=some k) W W')(hT:∀ k,vx.ownBlock=some k->∃ cur,W.heap[k]?=some (.cells cur 90 (0,0)))
 (hb:LawB W o base v bs) (hn:OwnC 90 W' base v' (rs++[v])) (hk:Zc0 vx v' W W'):LawX W' o base v' (us++[bs]):=by
 refine⟨⟨rs++[v],by simp[hrs],hn,fun i u hu=>?_⟩,fun q hq=>?_⟩
 ·rcases Nat.lt_or_ge i rs.length with hi|hi
  ·rw[List.getElem?_append_left hi] at hu;have e:(us++[bs]).getD i []=us.getD i []:=by simp[List.getD,List.getElem?_append_left (show i<us.length by omega)]
   rw[e];exact(hall i u hu).typ hw (by decide) hT
  ·rw[List.getElem?_append_right hi] at hu;have g0:i=rs.length:=by
    have:=(List.getElem?_eq_some_iff.1 hu).1;simp at this;omega
   subst g0;simp at hu;subst hu;have e:(us++[bs]).getD rs.length []=bs:=by rw[hrs];simp[List.getD]
   rw[e];exact hb.typ hw (by decide) hT
 ·rcases hk.loc with e|⟨g,e,hg⟩
  . exact h.no q (by rw[<- e];exact hq)
  . rw[e] at hq;cases hq;exact hlt.none hg
theorem Zzy {n:Nat}(h:OwnB W' W.heap.size v bs)(hl:bs.length<=1000000)(hlt:Zah o W)(hb:base<=W.heap.size):LawB W' o base v bs :=
 ⟨OwnC.boolsIs h hl,fun k hk=>by
  have h1:=h.lt k hk;exact⟨by omega,h1.2,hlt.none h1.1,h.typed k hk⟩⟩
theorem Zw7 {n:Nat}{fs hs:List (Int×BF)}(hl:LawL W o base vl (hs.map Prod.fst))(hx:LawX W o base vx (hs.map fun p=>tabB n p.2))(hsub:∀ p∈hs,p∈fs)(hsm:hs.length<=1000) :
 LawR (fun g=>base<=g/\g<W.heap.size/\o g=none/\∃ cur,W.heap[g]?=some (.cells cur 4 (0,0))) n fs W vl vx hs:=by
 obtain⟨rs,h1,h2,h3⟩:=hx.ex;obtain⟨al,cl,e1,_⟩:=hl.own.slice;obtain⟨ax,cx,e2,_⟩:=h2.slice;have l1:(Za0 (hs.map Prod.fst)).length=hs.length:=by simp[Za0]
 have l2:rs.length=hs.length:=by rw[h1];simp
 rw[l1] at e1;rw[l2] at e2;refine⟨hsub,hsm,⟨al,cl,e1,⟨by simp;omega,fun k hk=>?_⟩⟩,⟨ax,cx,e2,⟨by simp;omega,fun k hk=>?_⟩⟩⟩
 ·obtain⟨g,cap,e3,_⟩:=hl.own.shape (by rw[l1];simp at hk;omega);rw[e1] at e3;injection e3 with e3
  subst e3;have hc:=hl.own;rw[e1] at hc;refine⟨g,0,rfl,?_⟩;rw[Nat.zero_add,hc.cell k (by rw[l1];simpa using hk),Za0,List.getElem?_map,getElem?_at0 hk];rfl
 ·obtain⟨g,cap,e3,_⟩:=h2.shape (by rw[l2];simp at hk;omega);rw[e2] at e3;injection e3 with e3
  subst e3;have hc:=h2;rw[e2] at hc;have g0:k<rs.length:=by rw[h1];exact hk
  have hb:=h3 k rs[k] (List.getElem?_eq_getElem g0);refine⟨g,0,rs[k],rfl,?_,hb.is,hb.no⟩;rw[Nat.zero_add,hc.cell k g0,List.getElem?_eq_getElem g0]
end
open Go.RowKit
def okI (z:Int):Prop:=-9223372036854775808<=z/\z<=9223372036854775807
inductive ExT where
 | nil
 | mk (op v:Int) (n:Nat) (kid:Nat->ExT)
def sumN:Nat->(Nat->Nat)->Nat
 | 0,_=>0
 | k+1,f=>sumN k f+f k
theorem Zys {f:Nat->Nat}{j:Nat}:∀ (k:Nat),j<k->f j<=sumN k f
 | 0,h=>by omega
 | k+1,h=>by
   unfold sumN
   by_cases e:j=k
   . subst e;omega
   . have:=Zys (f:=f) k (show j<k by omega);omega
def ExT.size:ExT->Nat
 | .nil=>1
 | .mk _ _ n kid=>1+sumN n fun i=>(kid i).size
theorem ExT.size_pos (e:ExT):1<=e.size:=by cases e<;>unfold ExT.size<;>omega
instance:Inhabited ExT:=⟨.nil⟩
theorem ExT.kid_size {op v:Int}{n:Nat}{kid:Nat->ExT}{i:Nat}(h:i<n):(kid i).size<(ExT.mk op v n kid).size:=by
 have h1:(kid i).size<=sumN n fun i=>(kid i).size:=Zys (f:=fun i=>(kid i).size) n h
 show (kid i).size<1+sumN n fun i=>(kid i).size
 omega
def Za4 (w:World):ExT->Value->Prop
 | .nil,_=>False
 | .mk op v n kid,x=>∃ a c,x=.agg #[.int .i64 op,.int .i64 v,.slice a n c]/\okI op/\okI v/\n<=9223372036854775807 /\
  ∀ k,k<n->∃ b off x0 x1 x2,a=some ⟨b,off,none⟩/\w.cell? ⟨b,off+k*3,none⟩=some x0/\w.cell? ⟨b,off+k*3+1,none⟩=some x1/\w.cell? ⟨b,off+k*3+2,none⟩=some x2/\Za4 w (kid k) (.agg #[x0,x1,x2])
theorem Za4.below {w w':World}(hb:Below w.heap.size w w'):∀ (e:ExT) {x:Value},Za4 w e x->Za4 w' e x
 | .nil,_,h=>by unfold Za4 at h;exact h.elim
 | .mk op v n kid,x,h=>by
   unfold Za4 at h ⊢;obtain⟨a,c,h1,h2,h3,h4,h5⟩:=h;refine⟨a,c,h1,h2,h3,h4,fun k hk=>?_⟩;obtain⟨b,off,x0,x1,x2,rfl,c0,c1,c2,hx⟩:=h5 k hk;exact⟨b,off,x0,x1,x2,rfl,(hb.cell (p:=⟨b,off+k*3,none⟩) (Zab c0)).trans c0,(hb.cell (p:=⟨b,off+k*3+1,none⟩) (Zab c1)).trans c1,(hb.cell (p:=⟨b,off+k*3+2,none⟩) (Zab c2)).trans c2,Za4.below hb (kid k) hx⟩
theorem Zp4:∀ (e:ExT) (x:Value) (q:Nat) (w:World),q<=1000->Za4 w e x ->
 Calls prog 50 #[x,.int .i64 q] w fun y w'=>(∃ r:Nat,y=.returned (.int .i64 r)/\1<=r/\r<=q+1/\(r<=q->r=e.size))/\Below w.heap.size w w'
 | .nil,x,q,w,hq,h=>by unfold Za4 at h;exact h.elim
 | .mk op v n kid,x,q,w,hq,h=>by
   unfold Za4 at h;obtain⟨a,c,rfl,h2,h3,h4,h5⟩:=h;have H5:=Hd h5;have HSZ:Hid ((ExT.mk op v n kid).size=1+sumN n fun i=>(kid i).size):=Hd rfl;have IH:Hid (∀ (i:Nat) (x:Value) (z:Int) (q:Nat) (W:World),z=(q:Int)->q<=1000->Za4 W (kid i) x->Calls prog 50 #[x,.int .i64 z] W fun y w'=>(∃ r:Nat,y=.returned (.int .i64 r)/\1<=r/\r<=q+1/\(r<=q->r=(kid i).size))/\Below W.heap.size W w') :=
    Hd fun i x z q W hz h1 h2=>by subst hz;exact Zp4 (kid i) x q W h1 h2
   obtain⟨E,hE⟩:∃ E,E=ExT.mk op v n kid:=⟨_,rfl⟩;rw[<- hE] at HSZ ⊢;obtain⟨w1,hw1⟩:∃ w1,w1=w.alloc (.cells #[.int .i64 op,.int .i64 v,.slice a n c] 79):=⟨_,rfl⟩;have HW1:Hid (_=w1):=Hd hw1.symm;have HB1:Hid (Below w.heap.size w w1):=by rw[hw1];exact Hd (Zae _ _)
   have g6:w1.heap[w.heap.size]?=some (.cells #[.int .i64 op,.int .i64 v,.slice a n c] 79 (0,0)):=by rw[hw1];exact heap_alloc_new _ _
   have hs1:w1.heap.size=w.heap.size+1:=by rw[hw1];simp
   have d2:w1.cell? ⟨w.heap.size,2,none⟩=some (.slice a n c):=by rw[cell_of_row _ _ 2 _ _ _ g6];rfl
   clear h5 hE hw1 g6 h2 h3
   go_enter func50,ntmps50
   go_upto_region 1 with fail;rw[HW1.out];go_wp2_with fail
   go_loopw [5,6] (fun s5 s6 wr=>∃ i r:Nat,i<=n/\1<=r/\i<r/\r<=q+1/\s5=.int .i64 r/\s6=.int .i64 i/\Below w1.heap.size w1 wr/\Hid (r<=q->r=1+sumN i fun i=>(kid i).size)) (fun _ s6 _=>n-(intOf s6).toNat)
   case atStart=>exact⟨0,1,by omega,by omega,by omega,by omega,rfl,rfl,Below.refl _ _,Hd fun _=>rfl⟩
   case round =>
    obtain⟨i,r,hi,g8,gg,g7,rfl,rfl,g5,HR⟩:=hrel;have d2':=(g5.cell (p:=⟨w.heap.size,2,none⟩) (Zab d2)).trans d2;have g0:=Hd g5;clear g5
    by_cases gc:i<n
    ·by_cases gf:r<=q
     ·obtain⟨b,off,x0,x1,x2,rfl,c0,c1,c2,hx⟩:=H5.out i gc;have g4:=HB1.out.trans (g0.out.mono HB1.out.size);have e0:=(g4.cell (p:=⟨b,off+i*3,none⟩) (Zab c0)).trans c0;have e1:=(g4.cell (p:=⟨b,off+i*3+1,none⟩) (Zab c1)).trans c1;have e2:=(g4.cell (p:=⟨b,off+i*3+2,none⟩) (Zab c2)).trans c2;have HX:=Hd (hx.below g4);clear c0 c1 c2 hx g4;have g9:(i:Int)<n:=by omega
      go_wp2_with fail;refine(IH.out i _ _ (q-r) _ (by omega) (by omega) HX.out).mono ?_;rintro y w3 ⟨⟨r2,rfl,g1,g2,g3⟩,ga⟩;have ge:=Hd (g0.out.trans (ga.mono g0.out.size));have gd:Hid (r+r2<=q->r+r2=1+sumN (i+1) fun i=>(kid i).size):=Hd fun hh=>by
       have e1:=HR.out (by omega);have e2:=g3 (by omega)
       show _=1+(sumN i (fun i=>(kid i).size)+(kid i).size)
       omega
      clear ga g3 e0 e1 e2;go_wp2_with fail;go_roundw
      case rel=>exact⟨i+1,r+r2,by omega,by omega,by omega,by omega,by go_num,by go_num,ge.out,gd⟩
      case measure=>simp[intOf];omega
     ·have g9:(i:Int)<n:=by omega
      have HF:Hid ((∃ r':Nat,Ending.returned (.int .i64 (r:Nat))=.returned (.int .i64 r')/\1<=r'/\r'<=q+1/\(r'<=q->r'=E.size))/\Below w.heap.size w wr) :=
       Hd ⟨⟨r,rfl,g8,g7,fun hh=>by omega⟩,HB1.out.trans (g0.out.mono HB1.out.size)⟩
      go_wp2_with fail;go_ret;exact HF.out
    ·have he:i=n:=by omega
     have HF:Hid ((∃ r':Nat,Ending.returned (.int .i64 (r:Nat))=.returned (.int .i64 r')/\1<=r'/\r'<=q+1/\(r'<=q->r'=E.size))/\Below w.heap.size w wr) :=
      Hd ⟨⟨r,rfl,g8,g7,fun hh=>by rw[HSZ.out,HR.out hh,he]⟩,HB1.out.trans (g0.out.mono HB1.out.size)⟩
     have g9:¬ (i:Int)<n:=by omega
     go_wp2_with fail;go_ret;exact HF.out
open Go.RowKit
theorem Zfz {f:Nat->Nat}{i:Nat}:∀ {n:Nat},i<n->sumN i f+f i<=sumN n f
 | 0,h=>by omega
 | k+1,h=>by
   rcases Nat.lt_or_ge i k with h'|h'
   ·have:=Zfz (f:=f) h'
    show _<=sumN k f+f k
    omega
   ·obtain rfl:i=k:=by omega
    exact Nat.le_refl _
def Zel (op:Int):Int×Int :=
 if op=1\/op=2\/op=3 then (0,0) else if op=4 then (1,1) else if op=5\/op=6\/op=7 then (0,64) else if op=8\/op=9 then (2,2) else if op=10 then (3,3) else (-1,-1)
def okT:ExT->Nat->Prop
 | .nil,_=>False
 | .mk op v n kid,deep=>deep<=64/\0<=(Zel op).1/\(op=3->0<=v/\v<64)/\(op≠3->v=0)/\(Zel op).1<=n/\(n:Int)<=(Zel op).2/\∀ i,i<n->okT (kid i) (deep+1)
def Ztk:ExT->Prop
 | .nil=>False
 | .mk op v n kid=>0<=(Zel op).1/\(op=3->0<=v/\v<64)/\(op≠3->v=0)/\(Zel op).1<=n/\(n:Int)<=(Zel op).2/\∀ i,i<n->Ztk (kid i)
theorem okT.valid:∀ {e:ExT} {deep:Nat},okT e deep->Ztk e
 | .nil,_,h=>h.elim
 | .mk op v n kid,deep,h=>by
   obtain⟨_,h1,h2,h3,h4,h5,h6⟩:=h;exact⟨h1,h2,h3,h4,h5,fun i hi=>(h6 i hi).valid⟩
theorem Zud (op:Int)(w:World):Calls prog 157 #[.int .i64 op] w fun y w'=>y=.returned (.tuple #[.int .i64 (Zel op).1,.int .i64 (Zel op).2])/\w=w':=by
 obtain⟨p,hp⟩:∃ p,p=Zel op:=⟨_,rfl⟩;rw[<- hp];unfold Zel at hp;rcases(by omega:op=1\/op=2\/op=3\/op=4\/op=5\/op=6\/op=7\/op=8\/op=9\/op=10\/(op<1\/10<op)) with rfl|rfl|rfl|rfl|rfl|rfl|rfl|rfl|rfl|rfl|h
 all_goals
  first
  | (simp at hp
     subst hp
     go_enter func157,ntmps157
     go_wp2_with fail
     go_ret2
     exact⟨rfl,rfl⟩)
  | (have h1 : (op == 1) = false := by simp; omega
     have h2:(op == 2)=false:=by simp;omega
     have h3:(op == 3)=false:=by simp;omega
     have h4:(op == 4)=false:=by simp;omega
     have h5:(op == 5)=false:=by simp;omega
     have h6:(op == 6)=false:=by simp;omega
     have h7:(op == 7)=false:=by simp;omega
     have h8:(op == 8)=false:=by simp;omega
     have h9:(op == 9)=false:=by simp;omega
     have g0:(op == 10)=false:=by simp;omega
     rw[if_neg (by omega),if_neg (by omega),if_neg (by omega),if_neg (by omega),if_neg (by omega)] at hp;subst hp;clear h
     go_enter func157,ntmps157
     go_wp2_with fail
     go_ret2
     exact⟨rfl,rfl⟩)
def Ze5 (e:ExT)(deep parts:Nat)(w:World)(y:Ending)(w':World):Prop:=∃ err m:Int,y=.returned (.tuple #[.int .i64 err,.int .i64 m])/\okI m/\(err=0↔okT e deep)/\(err=0->m=(parts+e.size:Nat))/\Below w.heap.size w w'
theorem Zo0:∀ (e:ExT) (x:Value) (deep parts:Nat) (w:World),deep<=65->parts+e.size<=4096->Za4 w e x ->
 Calls prog 106 #[x,.int .i64 deep,.int .i64 parts] w (Ze5 e deep parts w)
 | .nil,x,deep,parts,w,hd,hp,h=>by unfold Za4 at h;exact h.elim
 | .mk op v n kid,x,deep,parts,w,hd,hp,h=>by
   unfold Za4 at h;obtain⟨a,c,rfl,h2,h3,h4,h5⟩:=h;have H5:=Hd h5;have HSZ:Hid ((ExT.mk op v n kid).size=1+sumN n fun i=>(kid i).size):=Hd rfl;have HKS:Hid (∀ i,i<n->(kid i).size<(ExT.mk op v n kid).size):=Hd fun i hi=>ExT.kid_size hi
   have HV:Hid (∀ l hh:Int,l=(Zel op).1->hh=(Zel op).2->(okT (ExT.mk op v n kid) deep↔deep<=64/\0<=l/\(op=3->0<=v/\v<64)/\(op≠3->v=0)/\l<=n/\(n:Int)<=hh/\∀ i,i<n->okT (kid i) (deep+1))):=by
    refine Hd ?_;rintro l hh rfl rfl;exact Iff.rfl
   have IH:Hid (∀ (i:Nat) (x:Value) (z1 z2:Int) (deep parts:Nat) (W:World),z1=(deep:Int)->z2=(parts:Int)->deep<=65->parts+(kid i).size<=4096->Za4 W (kid i) x->Calls prog 106 #[x,.int .i64 z1,.int .i64 z2] W (Ze5 (kid i) deep parts W)) :=
    Hd fun i x z1 z2 deep parts W e1 e2 h1 h2 h3=>by subst e1;subst e2;exact Zo0 (kid i) x deep parts W h1 h2 h3
   have HK:=Hd (fun W=>Zud op W);obtain⟨E,hE⟩:∃ E,E=ExT.mk op v n kid:=⟨_,rfl⟩;have gC:1<=E.size:=E.size_pos;rw[<- hE] at HSZ hp HV HKS ⊢;obtain⟨l,hl⟩:∃ l,l=(Zel op).1:=⟨_,rfl⟩;obtain⟨hi,gq⟩:∃ hi,hi=(Zel op).2:=⟨_,rfl⟩;rw[<- hl,<- gq] at HK;have g4:=Hd (HV.out l hi hl gq);obtain⟨w1,gl⟩:∃ w1,w1=w.alloc (.cells #[.int .i64 op,.int .i64 v,.slice a n c] 79):=⟨_,rfl⟩;have HW1:Hid (_=w1):=Hd gl.symm;have g8:Hid (Below w.heap.size w w1):=by rw[gl];exact Hd (Zae _ _)
   have gj:w1.heap[w.heap.size]?=some (.cells #[.int .i64 op,.int .i64 v,.slice a n c] 79 (0,0)):=by rw[gl];exact heap_alloc_new _ _
   have hs1:w1.heap.size=w.heap.size+1:=by rw[gl];simp
   have d0:w1.cell? ⟨w.heap.size,0,none⟩=some (.int .i64 op):=by rw[cell_of_row _ _ 0 _ _ _ gj];rfl
   have d1:w1.cell? ⟨w.heap.size,1,none⟩=some (.int .i64 v):=by rw[cell_of_row _ _ 1 _ _ _ gj];rfl
   have d2:w1.cell? ⟨w.heap.size,2,none⟩=some (.slice a n c):=by rw[cell_of_row _ _ 2 _ _ _ gj];rfl
   have g0:Hid (∀ (k m:Int) (W:World),k≠0->¬ okT E deep->okI m->Below w1.heap.size w1 W->Ze5 E deep parts w (.returned (.tuple #[.int .i64 k,.int .i64 m])) W) :=
    Hd fun k m W hk gw hm hb=>⟨k,m,rfl,hm,⟨fun e=>(hk e).elim,fun e=>(gw e).elim⟩,fun e=>(hk e).elim,g8.out.trans (hb.mono g8.out.size)⟩
   unfold okI at h2 h3;clear h5 hE gl gj HV hl gq
   go_enter func106,ntmps106
   go_upto_region 1 with fail;rw[HW1.out]
   by_cases gE:(deep:Int)>64
   ·go_wp2_with fail
    go_ret2
    exact g0.out 17 _ _ (by decide) (fun h=>by have:=(g4.out.1 h).1;omega) (by unfold okI;omega) (Below.refl _ _)
   go_wp2_with fail;refine(HK.out _).mono ?_;rintro y w' ⟨rfl,rfl⟩
   by_cases gD:l<0
   ·go_wp2_with fail
    go_ret2
    exact g0.out 11 _ _ (by decide) (fun h=>by have:=(g4.out.1 h).2.1;omega) (by unfold okI;omega) (Below.refl _ _)
   have gt:((op == 3)=true/\op=3)\/((op == 3)=false/\(op != 3)=true/\op≠3):=by
    by_cases e:op=3
    . exact .inl ⟨by simp[e],e⟩
    . exact .inr ⟨by simpa using e,by simpa using e,e⟩
   rcases gt with ⟨g1,g2⟩|⟨g1,g2,g3⟩
   ·subst g2
    by_cases gc:v<0
    ·go_wp2_with fail
     go_ret2
     exact g0.out 9 _ _ (by decide) (fun h=>by have:=(g4.out.1 h).2.2.1 (by trivial);omega) (by unfold okI;omega) (Below.refl _ _)
    by_cases gu:v>=64
    ·go_wp2_with fail
     go_ret2
     exact g0.out 9 _ _ (by decide) (fun h=>by have:=(g4.out.1 h).2.2.1 (by trivial);omega) (by unfold okI;omega) (Below.refl _ _)
    have HG:Hid ((3:Int)=3->0<=v/\v<64):=Hd fun _=>⟨by omega,by omega⟩
    have gr:Hid ((3:Int)≠3->v=0):=Hd fun e=>(e rfl).elim
    go_upto_region 9 with fail
    by_cases gx:(n:Int)<l
    ·go_wp2_with fail
     go_ret2
     exact g0.out 3 _ _ (by decide) (fun h=>by have:=(g4.out.1 h).2.2.2.2.1;omega) (by unfold okI;omega) (Below.refl _ _)
    by_cases gy:(n:Int)>hi
    ·go_wp2_with fail
     go_ret2
     exact g0.out 3 _ _ (by decide) (fun h=>by have:=(g4.out.1 h).2.2.2.2.2.1;omega) (by unfold okI;omega) (Below.refl _ _)
    go_wp2_with fail
    go_loopw [2,10,11,12] (fun s2 s10 s11 s12 wr=>∃ i p:Nat,i<=n/\p<=4096/\s2=.int .i64 p/\s10=.int .i64 i/\Below w1.heap.size w1 wr/\Hid (p=parts+(1+sumN i fun i=>(kid i).size))/\Hid (∀ j,j<i->okT (kid j) (deep+1))) (fun _ s10 _ _ _=>n-(intOf s10).toNat)
    case atStart=>exact⟨0,parts+1,by omega,by omega,by go_num,rfl,Below.refl _ _,Hd rfl,Hd fun j hj=>by omega⟩
    case round =>
     obtain⟨i,p,gA,gv,rfl,rfl,g9,HP,gh⟩:=hrel;have d2':=(g9.cell (p:=⟨w.heap.size,2,none⟩) (Zab d2)).trans d2;have g5:=Hd g9;clear g9
     by_cases ge:i<n
     ·obtain⟨b,off,x0,x1,x2,rfl,c0,c1,c2,hx⟩:=H5.out i ge;have g7:=g8.out.trans (g5.out.mono g8.out.size);have e0:=(g7.cell (p:=⟨b,off+i*3,none⟩) (Zab c0)).trans c0;have e1:=(g7.cell (p:=⟨b,off+i*3+1,none⟩) (Zab c1)).trans c1;have e2:=(g7.cell (p:=⟨b,off+i*3+2,none⟩) (Zab c2)).trans c2;have HX:=Hd (hx.below g7);have gd:p+(kid i).size<=4096:=by
       have s1:(kid i).size+sumN i (fun i=>(kid i).size)<=sumN n fun i=>(kid i).size:=by
        have:=Zfz (f:=fun i=>(kid i).size) ge;omega
       have s2:=HP.out;have s3:=HSZ.out;omega
      have gi:Hid (p+(kid i).size=parts+(1+sumN (i+1) fun i=>(kid i).size)):=Hd (by
       have s2:=HP.out
       show _=parts+(1+(sumN i (fun i=>(kid i).size)+(kid i).size))
       omega)
      have gp:(i:Int)<n:=by omega
      clear c0 c1 c2 hx g7;go_wp2_with fail;refine(IH.out i _ _ _ (deep+1) p _ (by go_num) rfl (by omega) gd HX.out).mono ?_;rintro y w3 ⟨err,m,rfl,hm,gf,gm,gn⟩;have go:=Hd (g5.out.trans (gn.mono g5.out.size));have gg:=Hd gm;have ga:=Hd gf;clear gn gm gf e0 e1 e2;unfold okI at hm
      by_cases g6:err=0
      ·subst g6;have q1:=ga.out.1 rfl;have q2:=gg.out rfl;obtain⟨p2,hp2⟩:∃ p2,p2=p+(kid i).size:=⟨_,rfl⟩;have gk:Hid (∀ j,j<i+1->okT (kid j) (deep+1)):=Hd fun j hj=>by
        rcases Nat.lt_or_ge j i with h|h
        . exact gh.out j h
        ·obtain rfl:j=i:=by omega
         exact q1
       rw[<- hp2] at q2 gd gi;subst q2;clear hp2 q1 gg ga;go_wp2_with fail;go_roundw
       case rel=>exact⟨i+1,p2,by omega,by omega,rfl,by go_num,go.out,gi,gk⟩
       case measure=>simp[intOf];omega
      ·have gz:(err != 0)=true:=by simpa using g6
       have HF:=Hd (g0.out err m w3 g6 (fun h=>g6 (ga.out.2 ((g4.out.1 h).2.2.2.2.2.2 i ge))) hm go.out);clear g6 gg ga;go_wp2_with fail
       go_ret2
       exact HF.out
     ·have he:i=n:=by omega
      have gp:¬ (i:Int)<n:=by omega
      have HF:Hid (Ze5 E deep parts w (.returned (.tuple #[.int .i64 0,.int .i64 (p:Nat)])) wr):=Hd ⟨0,p,rfl,by unfold okI;omega,⟨fun _=>g4.out.2 ⟨by omega,by omega,HG.out,gr.out,by omega,by omega,fun j hj=>gh.out j (by omega)⟩,fun _=>rfl⟩,fun _=>by rw[HP.out,HSZ.out,he],g8.out.trans (g5.out.mono g8.out.size)⟩;go_wp2_with fail
      go_ret2
      exact HF.out
   ·by_cases gc:v=0
    ·have gu:(v != 0)=false:=by simp[gc]
     have HG:Hid (op=3->0<=v/\v<64):=Hd fun e=>(g3 e).elim
     have gr:Hid (op≠3->v=0):=Hd fun _=>gc
     clear gc g3;go_upto_region 9 with fail
     by_cases gx:(n:Int)<l
     ·go_wp2_with fail
      go_ret2
      exact g0.out 3 _ _ (by decide) (fun h=>by have:=(g4.out.1 h).2.2.2.2.1;omega) (by unfold okI;omega) (Below.refl _ _)
     by_cases gy:(n:Int)>hi
     ·go_wp2_with fail
      go_ret2
      exact g0.out 3 _ _ (by decide) (fun h=>by have:=(g4.out.1 h).2.2.2.2.2.1;omega) (by unfold okI;omega) (Below.refl _ _)
     go_wp2_with fail
     go_loopw [2,10,11,12] (fun s2 s10 s11 s12 wr=>∃ i p:Nat,i<=n/\p<=4096/\s2=.int .i64 p/\s10=.int .i64 i/\Below w1.heap.size w1 wr/\Hid (p=parts+(1+sumN i fun i=>(kid i).size))/\Hid (∀ j,j<i->okT (kid j) (deep+1))) (fun _ s10 _ _ _=>n-(intOf s10).toNat)
     case atStart=>exact⟨0,parts+1,by omega,by omega,by go_num,rfl,Below.refl _ _,Hd rfl,Hd fun j hj=>by omega⟩
     case round =>
      obtain⟨i,p,gA,gv,rfl,rfl,g9,HP,gh⟩:=hrel;have d2':=(g9.cell (p:=⟨w.heap.size,2,none⟩) (Zab d2)).trans d2;have g5:=Hd g9;clear g9
      by_cases ge:i<n
      ·obtain⟨b,off,x0,x1,x2,rfl,c0,c1,c2,hx⟩:=H5.out i ge;have g7:=g8.out.trans (g5.out.mono g8.out.size);have e0:=(g7.cell (p:=⟨b,off+i*3,none⟩) (Zab c0)).trans c0;have e1:=(g7.cell (p:=⟨b,off+i*3+1,none⟩) (Zab c1)).trans c1;have e2:=(g7.cell (p:=⟨b,off+i*3+2,none⟩) (Zab c2)).trans c2;have HX:=Hd (hx.below g7);have gd:p+(kid i).size<=4096:=by
        have s1:(kid i).size+sumN i (fun i=>(kid i).size)<=sumN n fun i=>(kid i).size:=by
         have:=Zfz (f:=fun i=>(kid i).size) ge;omega
        have s2:=HP.out;have s3:=HSZ.out;omega
       have gi:Hid (p+(kid i).size=parts+(1+sumN (i+1) fun i=>(kid i).size)):=Hd (by
        have s2:=HP.out
        show _=parts+(1+(sumN i (fun i=>(kid i).size)+(kid i).size))
        omega)
       have gp:(i:Int)<n:=by omega
       clear c0 c1 c2 hx g7;go_wp2_with fail;refine(IH.out i _ _ _ (deep+1) p _ (by go_num) rfl (by omega) gd HX.out).mono ?_;rintro y w3 ⟨err,m,rfl,hm,gf,gm,gn⟩;have go:=Hd (g5.out.trans (gn.mono g5.out.size));have gg:=Hd gm;have ga:=Hd gf;clear gn gm gf e0 e1 e2;unfold okI at hm
       by_cases g6:err=0
       ·subst g6;have q1:=ga.out.1 rfl;have q2:=gg.out rfl;obtain⟨p2,hp2⟩:∃ p2,p2=p+(kid i).size:=⟨_,rfl⟩;have gk:Hid (∀ j,j<i+1->okT (kid j) (deep+1)):=Hd fun j hj=>by
         rcases Nat.lt_or_ge j i with h|h
         . exact gh.out j h
         ·obtain rfl:j=i:=by omega
          exact q1
        rw[<- hp2] at q2 gd gi;subst q2;clear hp2 q1 gg ga;go_wp2_with fail;go_roundw
        case rel=>exact⟨i+1,p2,by omega,by omega,rfl,by go_num,go.out,gi,gk⟩
        case measure=>simp[intOf];omega
       ·have gz:(err != 0)=true:=by simpa using g6
        have HF:=Hd (g0.out err m w3 g6 (fun h=>g6 (ga.out.2 ((g4.out.1 h).2.2.2.2.2.2 i ge))) hm go.out);clear g6 gg ga;go_wp2_with fail
        go_ret2
        exact HF.out
      ·have he:i=n:=by omega
       have gp:¬ (i:Int)<n:=by omega
       have HF:Hid (Ze5 E deep parts w (.returned (.tuple #[.int .i64 0,.int .i64 (p:Nat)])) wr):=Hd ⟨0,p,rfl,by unfold okI;omega,⟨fun _=>g4.out.2 ⟨by omega,by omega,HG.out,gr.out,by omega,by omega,fun j hj=>gh.out j (by omega)⟩,fun _=>rfl⟩,fun _=>by rw[HP.out,HSZ.out,he],g8.out.trans (g5.out.mono g8.out.size)⟩;go_wp2_with fail
       go_ret2
       exact HF.out
    ·have gu:(v != 0)=true:=by simpa using gc
     have gB:Hid (¬ okT E deep):=Hd fun h=>gc ((g4.out.1 h).2.2.2.1 g3)
     clear gc g3;go_wp2_with fail
     go_ret2
     exact g0.out 9 _ _ (by decide) gB.out (by unfold okI;omega) (Below.refl _ _)
open Go.RowKit
theorem Zho (e:ExT)(x:Value)(w:World)(hs:e.size<=4096)(h:Za4 w e x) :
 Calls prog 51 #[x] w fun y w'=>∃ err:Int,y=.returned (.int .i64 err)/\(err=0↔okT e 1)/\Below w.heap.size w w':=by
 have HC:Hid (∀ W,Below w.heap.size w W->∀ u,u=x->Calls prog 106 #[u,.int .i64 1,.int .i64 0] W (Ze5 e 1 0 W)):=Hd fun W hb u hu=>by subst hu;exact Zo0 e _ 1 0 W (by omega) (by omega) (h.below hb)
 obtain⟨x0,x1,x2,hx⟩:∃ x0 x1 x2,x=.agg #[x0,x1,x2]:=by
  cases e with
  | nil=>unfold Za4 at h;exact h.elim
  | mk op v n kid =>
    unfold Za4 at h;obtain⟨a,c,rfl,_⟩:=h;exact⟨_,_,_,rfl⟩
 subst hx;obtain⟨w1,g1⟩:∃ w1,w1=w.alloc (.cells #[x0,x1,x2] 79):=⟨_,rfl⟩;have HW1:Hid (_=w1):=Hd g1.symm;have g2:Hid (Below w.heap.size w w1):=by rw[g1];exact Hd (Zae _ _)
 have g0:w1.heap[w.heap.size]?=some (.cells #[x0,x1,x2] 79 (0,0)):=by rw[g1];exact heap_alloc_new _ _
 have d0:w1.cell? ⟨w.heap.size,0,none⟩=some x0:=by rw[cell_of_row _ _ 0 _ _ _ g0];rfl
 have d1:w1.cell? ⟨w.heap.size,1,none⟩=some x1:=by rw[cell_of_row _ _ 1 _ _ _ g0];rfl
 have d2:w1.cell? ⟨w.heap.size,2,none⟩=some x2:=by rw[cell_of_row _ _ 2 _ _ _ g0];rfl
 have g3:x0.cells=#[x0]/\x1.cells=#[x1]/\x2.cells=#[x2]:=by
  cases e with
  | nil=>unfold Za4 at h;exact h.elim
  | mk op v n kid =>
    unfold Za4 at h;obtain⟨a,c,h1,_⟩:=h;cases h1;exact⟨rfl,rfl,rfl⟩
 obtain⟨o0,o1,o2⟩:=g3;clear h g1 g0
 go_enter func51,ntmps51
 go_upto_region 1 with fail;rw[HW1.out];go_wp2_with fail;refine(HC.out _ g2.out _ rfl).mono ?_;rintro y w2 ⟨err,m,rfl,hm,hv,_,hb⟩;have HF:Hid (∃ err':Int,Ending.returned (.int .i64 err)=.returned (.int .i64 err')/\(err'=0↔okT e 1)/\Below w.heap.size w w2):=Hd ⟨err,rfl,hv,g2.out.trans (hb.mono g2.out.size)⟩;clear hv hb;go_wp2_with fail;go_ret;exact HF.out
def Zhb:Nat->(Nat->List Int)->List Int
 | 0,_=>[]
 | k+1,f=>Zhb k f++f k
def Zcq:ExT->List Int
 | .nil=>[]
 | .mk op v n kid=>(if op=3 then [v] else [])++Zhb n fun i=>Zcq (kid i)
theorem Zh8 {f:Nat->List Int}{g:Nat->Nat}:∀ (n:Nat),(∀ i,i<n->(f i).length<=g i)->(Zhb n f).length<=sumN n g
 | 0,_=>Nat.le_refl _
 | k+1,h=>by
   show (Zhb k f++f k).length<=sumN k g+g k
   rw[List.length_append];have:=Zh8 (f:=f) (g:=g) k (fun i hi=>h i (by omega));have:=h k (by omega);omega
theorem Zfj:∀ e:ExT,(Zcq e).length<=e.size
 | .nil=>by simp[Zcq]
 | .mk op v n kid=>by
   show ((if op=3 then [v] else [])++Zhb n fun i=>Zcq (kid i)).length<=1+sumN n fun i=>(kid i).size
   rw[List.length_append];have h1:=Zh8 (f:=fun i=>Zcq (kid i)) (g:=fun i=>(kid i).size) n (fun i _=>Zfj (kid i));have h2:(if op=3 then [v] else []:List Int).length<=1:=by split<;>simp
   omega
theorem OwnI.lower {w:World}{base b:Nat}{v:Value}{zs:List Int}(h:OwnI w base v zs)(hb:b<=base):OwnI w b v zs:=by
 refine⟨h.1,?_⟩;rcases h.2 with hn|⟨g,cap,cur,rfl,g0,rest⟩
 . exact .inl hn
 . exact .inr ⟨g,cap,cur,rfl,by omega,rest⟩
theorem Zm7:∀ (e:ExT) (x:Value) (w:World),e.size<=4096->Za4 w e x ->
 Calls prog 107 #[x] w fun y w'=>∃ u,y=.returned u/\OwnI w' w.heap.size u (Zcq e)/\Below w.heap.size w w'
 | .nil,x,w,hp,h=>by unfold Za4 at h;exact h.elim
 | .mk op v n kid,x,w,hp,h=>by
   unfold Za4 at h;obtain⟨a,c,rfl,h2,h3,h4,h5⟩:=h;have H5:=Hd h5;have HSZ:Hid ((ExT.mk op v n kid).size=1+sumN n fun i=>(kid i).size):=Hd rfl;have HKS:Hid (∀ i,i<n->(kid i).size<(ExT.mk op v n kid).size):=Hd fun i hi=>ExT.kid_size hi
   have HVT:Hid (Zcq (ExT.mk op v n kid)=(if op=3 then [v] else [])++Zhb n fun i=>Zcq (kid i)):=Hd rfl;have IH:Hid (∀ (i:Nat) (x:Value) (W:World),(kid i).size<=4096->Za4 W (kid i) x->Calls prog 107 #[x] W fun y w'=>∃ u,y=.returned u/\OwnI w' W.heap.size u (Zcq (kid i))/\Below W.heap.size W w') :=
    Hd fun i x W h1 h2=>Zm7 (kid i) x W h1 h2
   obtain⟨E,hE⟩:∃ E,E=ExT.mk op v n kid:=⟨_,rfl⟩;rw[<- hE] at HSZ hp HVT HKS ⊢;obtain⟨w1,hw1⟩:∃ w1,w1=w.alloc (.cells #[.int .i64 op,.int .i64 v,.slice a n c] 79):=⟨_,rfl⟩;have HW1:Hid (_=w1):=Hd hw1.symm;have HB1:Hid (Below w.heap.size w w1):=by rw[hw1];exact Hd (Zae _ _)
   have g9:w1.heap[w.heap.size]?=some (.cells #[.int .i64 op,.int .i64 v,.slice a n c] 79 (0,0)):=by rw[hw1];exact heap_alloc_new _ _
   have hs1:w1.heap.size=w.heap.size+1:=by rw[hw1];simp
   have d0:w1.cell? ⟨w.heap.size,0,none⟩=some (.int .i64 op):=by rw[cell_of_row _ _ 0 _ _ _ g9];rfl
   have d1:w1.cell? ⟨w.heap.size,1,none⟩=some (.int .i64 v):=by rw[cell_of_row _ _ 1 _ _ _ g9];rfl
   have d2:w1.cell? ⟨w.heap.size,2,none⟩=some (.slice a n c):=by rw[cell_of_row _ _ 2 _ _ _ g9];rfl
   unfold okI at h2 h3;obtain⟨w2,ge⟩:∃ w2,w2=w1.alloc (.cells #[] 3):=⟨_,rfl⟩;have gr:Hid (_=w2):=Hd ge.symm;have HB2:Hid (Below w1.heap.size w1 w2):=by rw[ge];exact Hd (Zae _ _)
   have gj:Hid (OwnI w2 w1.heap.size (.slice (some ⟨w.heap.size+1,0,none⟩) 0 0) []):=by rw[ge,<- hs1];exact Hd (Zif _ _ (Nat.le_refl _))
   clear h5 hE hw1 ge g9
   go_enter func107,ntmps107
   go_upto_region 1 with fail;rw[HW1.out];go_upto_region 2 with fail;obtain⟨Z,hZ⟩:∃ Z:List Int,Z=if op=3 then [v] else []:=⟨_,rfl⟩
   have HZ:=Hd hZ;have gm:Hid (Z.length<=1):=Hd (by rw[hZ];split<;>simp);rw[gr.out];have gl:w1.heap.size<=w2.heap.size:=HB2.out.size;have d0':=(HB2.out.cell (p:=⟨w.heap.size,0,none⟩) (Zab d0)).trans d0;have d1':=(HB2.out.cell (p:=⟨w.heap.size,1,none⟩) (Zab d1)).trans d1
   by_cases h3:op=3
   ·rw[if_pos h3] at hZ;subst h3;clear h2;go_wp2_with (at_builtin;refine Zbe _ rfl _ _ rfl w1.heap.size w1 _ [] _ rfl rfl rfl rfl (by exact gj.out) (by simp) gl HB2.out ?_;intro v3 w3 gk g7 go _)
    go_loopw [3,4] (fun s3 s4 wr=>∃ i:Nat,i<=n/\s4=.int .i64 i/\Below w1.heap.size w1 wr/\OwnI wr w1.heap.size s3 (Z++Zhb i fun i=>Zcq (kid i))/\w1.heap.size<=wr.heap.size) (fun _ s4 _=>n-(intOf s4).toNat)
    case atStart=>exact⟨0,Nat.zero_le _,rfl,g7,by rw[hZ];simpa [Zhb] using gk,go⟩
    case round =>
     obtain⟨i,gq,rfl,g2,g5,gn⟩:=hrel;have d2':=(g2.cell (p:=⟨w.heap.size,2,none⟩) (Zab d2)).trans d2;have g0:=Hd g2;have gc:=Hd g5;clear g2 g5
     by_cases g6:i<n
     ·obtain⟨b,off,x0,x1,x2,rfl,c0,c1,c2,hx⟩:=H5.out i g6;have g1:=HB1.out.trans (g0.out.mono HB1.out.size);have e0:=(g1.cell (p:=⟨b,off+i*3,none⟩) (Zab c0)).trans c0;have e1:=(g1.cell (p:=⟨b,off+i*3+1,none⟩) (Zab c1)).trans c1;have e2:=(g1.cell (p:=⟨b,off+i*3+2,none⟩) (Zab c2)).trans c2;have HX:=Hd (hx.below g1);have gh:(i:Int)<n:=by omega
      have gp:=HKS.out i g6
      have gd:Hid ((Z++Zhb i fun i=>Zcq (kid i)).length+(Zcq (kid i)).length<=4096):=Hd (by
       have s1:=Zfz (f:=fun i=>(kid i).size) g6;have s2:=HSZ.out;have s3:=Zh8 (f:=fun i=>Zcq (kid i)) (g:=fun i=>(kid i).size) i (fun i _=>Zfj (kid i));have s4:=Zfj (kid i);have s5:=gm.out;rw[List.length_append];omega)
      clear c0 c1 c2 hx g1;go_upto_region 7 with fail
      go_wp2_with (first
       | (go_at_call 107;refine(IH.out i _ _ (by omega) HX.out).mono ?_;rintro y w3 ⟨u,rfl,hu,g7⟩;obtain⟨au,cu,rfl,ga,gf⟩:=hu.sliceIs (by have:=gd.out;omega);have HU:=Hd ga;have g8:=Hd g7;clear hu ga g7)
       | (at_builtin;refine Zeg rfl _ _ rfl w1.heap.size w1 _ (Z++Zhb i fun i=>Zcq (kid i)) (Zcq (kid i)) au cu rfl rfl (by exact gc.out.below g8.out) (by exact HU.out) (by have:=gd.out;omega) (by have:=g8.out.size;omega) (by exact g0.out.trans (g8.out.mono g0.out.size)) gf ?_;intro v4 w4 g4 gi gg _))
      go_roundw
      case rel=>exact⟨i+1,by omega,by go_num,gi,by rw[List.append_assoc] at g4;exact g4,gg⟩
      case measure=>simp[intOf];omega
     ·have he:i=n:=by omega
      have gh:¬ (i:Int)<n:=by omega
      have HF:Hid (∃ u,Ending.returned u3=.returned u/\OwnI wr w.heap.size u (Zcq E)/\Below w.heap.size w wr):=Hd ⟨u3,rfl,by rw[HVT.out,<- HZ.out,<- he];exact gc.out.lower (by omega),HB1.out.trans (g0.out.mono HB1.out.size)⟩;go_wp2_with fail;go_ret;exact HF.out
   ·rw[if_neg h3] at hZ;have g3:(op == 3)=false:=by simpa using h3
    clear h3;go_wp2_with fail
    go_loopw [3,4] (fun s3 s4 wr=>∃ i:Nat,i<=n/\s4=.int .i64 i/\Below w1.heap.size w1 wr/\OwnI wr w1.heap.size s3 (Z++Zhb i fun i=>Zcq (kid i))/\w1.heap.size<=wr.heap.size) (fun _ s4 _=>n-(intOf s4).toNat)
    case atStart=>exact⟨0,Nat.zero_le _,rfl,HB2.out,by rw[hZ];simpa [Zhb] using gj.out,gl⟩
    case round =>
     obtain⟨i,gq,rfl,g2,g5,gn⟩:=hrel;have d2':=(g2.cell (p:=⟨w.heap.size,2,none⟩) (Zab d2)).trans d2;have g0:=Hd g2;have gc:=Hd g5;clear g2 g5
     by_cases g6:i<n
     ·obtain⟨b,off,x0,x1,x2,rfl,c0,c1,c2,hx⟩:=H5.out i g6;have g1:=HB1.out.trans (g0.out.mono HB1.out.size);have e0:=(g1.cell (p:=⟨b,off+i*3,none⟩) (Zab c0)).trans c0;have e1:=(g1.cell (p:=⟨b,off+i*3+1,none⟩) (Zab c1)).trans c1;have e2:=(g1.cell (p:=⟨b,off+i*3+2,none⟩) (Zab c2)).trans c2;have HX:=Hd (hx.below g1);have gh:(i:Int)<n:=by omega
      have gp:=HKS.out i g6
      have gd:Hid ((Z++Zhb i fun i=>Zcq (kid i)).length+(Zcq (kid i)).length<=4096):=Hd (by
       have s1:=Zfz (f:=fun i=>(kid i).size) g6;have s2:=HSZ.out;have s3:=Zh8 (f:=fun i=>Zcq (kid i)) (g:=fun i=>(kid i).size) i (fun i _=>Zfj (kid i));have s4:=Zfj (kid i);have s5:=gm.out;rw[List.length_append];omega)
      clear c0 c1 c2 hx g1;go_upto_region 7 with fail
      go_wp2_with (first
       | (go_at_call 107;refine(IH.out i _ _ (by omega) HX.out).mono ?_;rintro y w3 ⟨u,rfl,hu,g7⟩;obtain⟨au,cu,rfl,ga,gf⟩:=hu.sliceIs (by have:=gd.out;omega);have HU:=Hd ga;have g8:=Hd g7;clear hu ga g7)
       | (at_builtin;refine Zeg rfl _ _ rfl w1.heap.size w1 _ (Z++Zhb i fun i=>Zcq (kid i)) (Zcq (kid i)) au cu rfl rfl (by exact gc.out.below g8.out) (by exact HU.out) (by have:=gd.out;omega) (by have:=g8.out.size;omega) (by exact g0.out.trans (g8.out.mono g0.out.size)) gf ?_;intro v4 w4 g4 gi gg _))
      go_roundw
      case rel=>exact⟨i+1,by omega,by go_num,gi,by rw[List.append_assoc] at g4;exact g4,gg⟩
      case measure=>simp[intOf];omega
     ·have he:i=n:=by omega
      have gh:¬ (i:Int)<n:=by omega
      have HF:Hid (∃ u,Ending.returned u3=.returned u/\OwnI wr w.heap.size u (Zcq E)/\Below w.heap.size w wr):=Hd ⟨u3,rfl,by rw[HVT.out,<- HZ.out,<- he];exact gc.out.lower (by omega),HB1.out.trans (g0.out.mono HB1.out.size)⟩;go_wp2_with fail;go_ret;exact HF.out
open Go.RowKit
theorem Zwr (a:Option Addr)(c:Nat)(zs:List Int)(v:Int)(w:World)(hl:zs.length<=1000000)(h:Zav w a zs) :
 Calls prog 108 #[.slice a zs.length c,.int .i64 v] w fun y w'=>y=.returned (.bool (decide (v∈zs)))/\w=w':=by
 have HI:=Hd h;clear h;have g4:Hid ((∀ j,j<zs.length->at0 zs j≠v)->decide (v∈zs)=false):=Hd fun hh=>decide_eq_false fun hm=>by
  obtain⟨j,hj,e⟩:=List.getElem_of_mem hm;exact hh j hj (by rw[Zax hj];exact e)
 have g2:Hid (∀ j,j<zs.length->at0 zs j=v->decide (v∈zs)=true):=Hd fun j hj e=>decide_eq_true (by rw[Zax hj] at e;rw[<- e];exact List.getElem_mem hj)
 go_enter func108,ntmps108
 go_wp2_with fail
 go_loopw [5] (fun s5 wr=>∃ i:Nat,i<=zs.length/\s5=.int .i64 i/\w=wr/\Hid (∀ j,j<i->at0 zs j≠v)) (fun s5 _=>zs.length-(intOf s5).toNat)
 case atStart=>exact⟨0,Nat.zero_le _,rfl,rfl,Hd fun j hj=>by omega⟩
 case round =>
  obtain⟨i,hi,rfl,rfl,HN⟩:=hrel
  by_cases g1:i<zs.length
  ·obtain⟨b,off,rfl,hc⟩:=HI.out.cells i g1;have g3:(i:Int)<zs.length:=by omega
   obtain⟨z,hz⟩:∃ z,z=at0 zs i:=⟨_,rfl⟩;rw[<- hz] at hc
   by_cases he:z=v
   . have HY:=Hd (g2.out i g1 (by rw[<- hz,he]));subst he;clear hz;go_wp2_with fail;go_ret;exact⟨by rw[HY.out];rfl,rfl⟩
   ·have g5:(z == v)=false:=by simpa using he
    have g0:Hid (∀ j,j<i+1->at0 zs j≠v):=Hd fun j hj=>by
     rcases Nat.lt_or_ge j i with h|h
     . exact HN.out j h
     ·obtain rfl:j=i:=by omega
      rw[<- hz];exact he
    clear hz he;go_wp2_with fail;go_roundw
    case rel=>exact⟨i+1,by omega,by go_num,by simp,g0⟩
    case measure=>simp[intOf];omega
  ·have g0:=Hd (g4.out fun j hj=>HN.out j (by omega));have g3:¬ (i:Int)<zs.length:=by omega
   go_wp2_with fail;go_ret;exact⟨by rw[g0.out];rfl,rfl⟩
structure PutS (zs:List Int)(v:Int)(i:Nat)(d:Bool)(os:List Int):Prop where
 mem:∀ x,x∈os↔x∈zs.take i\/(d=true/\x=v)
 len:os.length=i+if d then 1 else 0
 srt:os.Pairwise (· < ·)
 low:d=false->∀ x∈os,x<v
 up:d=true->∀ x∈os,∀ y∈zs.drop i,x<y
theorem Zte {os:List Int}{z:Int}(h:os.Pairwise (· < ·))(hz:∀ x∈os,x<z):(os++[z]).Pairwise (· < ·) :=
 List.pairwise_append.2 ⟨h,List.pairwise_singleton ..,fun x hx y hy=>by rw[List.mem_singleton.1 hy];exact hz x hx⟩
theorem Ztd {zs:List Int}(hs:zs.Pairwise (· < ·)){i:Nat}(hi:i<zs.length):(∀ y∈zs.drop i,at0 zs i<=y)/\(∀ y∈zs.drop (i+1),at0 zs i<y)/\(∀ x∈zs.take i,x<at0 zs i):=by
 have e:zs.drop i=at0 zs i::zs.drop (i+1):=by rw[Zax hi];exact(List.drop_eq_getElem_cons hi)
 have hd:(zs.drop i).Pairwise (· < ·):=hs.sublist (List.drop_sublist ..);rw[e,List.pairwise_cons] at hd;have h2:=hs;rw[<- List.take_append_drop i zs,List.pairwise_append] at h2;refine⟨fun y hy=>?_,hd.1,fun x hx=>h2.2.2 x hx _ (by rw[e];exact List.mem_cons_self ..)⟩;rw[e] at hy;rcases List.mem_cons.1 hy with h|h
 . omega
 . have:=hd.1 y h;omega
theorem PutS.here {zs:List Int}{v:Int}{i:Nat}{os:List Int}(h:PutS zs v i false os)(hu:∀ y∈zs.drop i,v<y):PutS zs v i true (os++[v]):=by
 refine⟨fun x=>?_,by simp[h.len],Zte h.srt (h.low rfl),by simp,fun _ x hx y hy=>?_⟩
 . have:=h.mem x;simp only[Bool.false_eq_true,false_and,or_false] at this;simp[this]
 ·rcases List.mem_append.1 hx with h1|h1
  . have:=h.low rfl x h1;have:=hu y hy;omega
  . rw[List.mem_singleton.1 h1];exact hu y hy
theorem PutS.next {zs:List Int}{v:Int}{i:Nat}{d:Bool}{os:List Int}(h:PutS zs v i d os)(hs:zs.Pairwise (· < ·))(hi:i<zs.length)(hd:d=false->at0 zs i<v):PutS zs v (i+1) d (os++[at0 zs i]):=by
 obtain⟨q1,q2,q3⟩:=Ztd hs hi;have g0:∀ x∈os,x<at0 zs i:=fun x hx=>by
  cases d with
  | true=>exact h.up rfl x hx _ (by rw[List.drop_eq_getElem_cons hi,Zax hi];exact List.mem_cons_self ..)
  | false =>
    rcases(h.mem x).1 hx with h1|⟨h1,_⟩
    . exact q3 x h1
    . cases h1
 refine⟨fun x=>?_,by have:=h.len;simp[this];omega,Zte h.srt g0,fun e x hx=>?_,fun e x hx y hy=>?_⟩
 ·rw[List.take_succ_eq_append_getElem hi,List.mem_append,List.mem_append,h.mem x,Zax hi];simp only[List.mem_singleton];constructor
  ·rintro((h1|h1)|h1)
   . exact .inl (.inl h1)
   . exact .inr h1
   . exact .inl (.inr h1)
  ·rintro((h1|h1)|h1)
   . exact .inl (.inl h1)
   . exact .inr h1
   . exact .inl (.inr h1)
 ·rcases List.mem_append.1 hx with h1|h1
  . exact h.low e x h1
  . rw[List.mem_singleton.1 h1];exact hd e
 ·have g1:=q2 y hy;rcases List.mem_append.1 hx with h1|h1
  . have:=g0 x h1;omega
  . rw[List.mem_singleton.1 h1];exact g1
theorem Zx3 (a:Option Addr)(c:Nat)(zs:List Int)(v:Int)(w:World)(hl:zs.length<=1000000)(h:Zav w a zs)(hsr:zs.Pairwise (· < ·))(hnm:v∉zs) :
 Calls prog 109 #[.slice a zs.length c,.int .i64 v] w fun y w'=>∃ u os,y=.returned u/\OwnI w' w.heap.size u os/\((∀ x,x∈os↔x∈zs\/x=v)/\os.Pairwise (· < ·))/\os.length=zs.length+1/\Below w.heap.size w w':=by
 have HI:=Hd h;have g9:=Hd hsr;have gi:Hid (∀ i,i<zs.length->at0 zs i≠v):=Hd fun i hi e=>hnm (by rw[<- e,Zax hi];exact List.getElem_mem hi)
 clear h hsr hnm;have ga:Hid (∀ os,PutS zs v zs.length true os->((∀ x,x∈os↔x∈zs\/x=v)/\os.Pairwise (· < ·))/\os.length=zs.length+1):=Hd fun os h=>⟨⟨fun x=>by have:=h.mem x;rw[List.take_length] at this;simpa using this,h.srt⟩,by simpa using h.len⟩
 go_enter func109,ntmps109
 go_wp2_with fail
 go_loopw [5,6,7] (fun s5 s6 s7 wr=>∃ (i:Nat) (d:Bool) (os:List Int),i<=zs.length/\s6=.bool d/\s7=.int .i64 i/\OwnI wr w.heap.size s5 os/\w.heap.size<=wr.heap.size/\Below w.heap.size w wr/\Hid (PutS zs v i d os)) (fun _ _ s7 _=>zs.length-(intOf s7).toNat)
 case atStart=>exact⟨0,false,[],Nat.zero_le _,rfl,rfl,Zif w _ (Nat.le_refl _),by simp,Zae w _,Hd ⟨fun x=>by simp,by simp,List.Pairwise.nil,by simp,by simp⟩⟩
 case round =>
  obtain⟨i,d,os,hi,rfl,rfl,g7,g8,g5,HP⟩:=hrel;have gk:os.length<=i+1:=by rw[HP.out.len];split<;>omega
  by_cases g4:i<zs.length
  ·obtain⟨b,off,rfl,hc⟩:=(HI.out.below g5).cells i g4;have g6:=Hd g7;have g3:=Hd g5;have gg:(i:Int)<zs.length:=by omega
   obtain⟨z,hz⟩:∃ z,z=at0 zs i:=⟨_,rfl⟩;rw[<- hz] at hc;have HZ:=Hd hz;clear g7 g5 hz;cases d with
   | true =>
     go_wp2_with (at_builtin;refine Zbe _ rfl _ _ rfl w.heap.size w _ os _ rfl rfl rfl rfl (by exact g6.out) (by omega) g8 g3.out ?_;intro v1 w1 g1 g0 g2 _);go_roundw
     case rel=>exact⟨i+1,true,_,by omega,rfl,by go_num,g1,g2,g0,Hd (by rw[HZ.out];exact HP.out.next g9.out g4 (by simp))⟩
     case measure=>simp[intOf];omega
   | false =>
     by_cases gl:z>v
     ·have cne:∀ W:World,Below wr.heap.size wr W->W.cell? ⟨b,off+i,none⟩=some (.int .i64 z):=fun W hb=>(hb.cell (p:=⟨b,off+i,none⟩) (Zab hc)).trans hc
      have gf:b<w.heap.size:=by
       obtain⟨b',o',e,c'⟩:=HI.out.cells i g4;cases e;exact Zab c'
      go_upto_region 8 with (at_builtin;refine Zbe _ rfl _ _ rfl w.heap.size w _ os _ rfl rfl rfl rfl (by exact g6.out) (by omega) g8 g3.out ?_;intro v1 w1 g1 g0 g2 _)
      have gm:w1.cell? ⟨b,off+i,none⟩=some (.int .i64 z):=by
       obtain⟨b',o',e,c'⟩:=HI.out.cells i g4;cases e;rw[(g0.cell (p:=⟨b,off+i,none⟩) gf),HZ.out];exact c'
      have gh:=Hd g1;have gj:=Hd g0;clear g1 g0 hc cne;go_wp2_with (at_builtin;refine Zbe _ rfl _ _ rfl w.heap.size w _ (os++[v]) _ rfl rfl rfl rfl (by exact gh.out) (by simp;omega) g2 gj.out ?_;intro v2 w2 gc gd ge _);go_roundw
      case rel=>exact⟨i+1,true,_,by omega,rfl,by go_num,gc,ge,gd,Hd (by rw[HZ.out];exact(HP.out.here fun y hy=>by have:=(Ztd g9.out g4).1 y hy;have:=HZ.out;omega).next g9.out g4 (by simp))⟩
      case measure=>simp[intOf];omega
     ·go_wp2_with (at_builtin;refine Zbe _ rfl _ _ rfl w.heap.size w _ os _ rfl rfl rfl rfl (by exact g6.out) (by omega) g8 g3.out ?_;intro v1 w1 g1 g0 g2 _);go_roundw
      case rel=>exact⟨i+1,false,_,by omega,rfl,by go_num,g1,g2,g0,Hd (by rw[HZ.out];exact HP.out.next g9.out g4 fun _=>by have:=gi.out i g4;have:=HZ.out;omega)⟩
      case measure=>simp[intOf];omega
  ·have he:i=zs.length:=by omega
   have gg:¬ (i:Int)<zs.length:=by omega
   have g6:=Hd g7;have g3:=Hd g5;have HE:=Hd he;clear g7 g5 he;cases d with
   | true =>
     have HF:=ga.out os (by rw[<- HE.out];exact HP.out);go_wp2_with fail;go_ret;exact⟨_,rfl,os,g6.out,HF.1,HF.2,g3.out⟩
   | false =>
     have HF:=Hd (ga.out (os++[v]) (by rw[<- HE.out];exact HP.out.here (by rw[HE.out];simp)));go_wp2_with (at_builtin;refine Zbe _ rfl _ _ rfl w.heap.size w _ os _ rfl rfl rfl rfl (by exact g6.out) (by omega) g8 g3.out ?_;intro v1 w1 g1 g0 g2 _);go_ret;exact⟨_,rfl,_,g1,HF.out.1,HF.out.2,g0⟩
theorem Zib {zs:List Int}{i:Nat}(hi:i<zs.length)(x:Int):x∈zs.take (i+1)↔x∈zs.take i\/x=at0 zs i:=by
 rw[List.take_succ_eq_append_getElem hi,List.mem_append,Zax hi,List.mem_singleton]
theorem Zz8 (a:Option Addr)(c:Nat)(zs:List Int)(w:World)(hl:zs.length<=900000)(h:Zav w a zs) :
 Calls prog 53 #[.slice a zs.length c] w fun y w'=>∃ u os,y=.returned u/\OwnI w' w.heap.size u os/\((∀ x,x∈os↔x∈zs)/\os.Pairwise (· < ·))/\os.length<=zs.length/\Below w.heap.size w w':=by
 have HI:=Hd h;clear h
 go_enter func53,ntmps53
 go_wp2_with fail
 go_loopw [3,4] (fun s3 s4 wr=>∃ (i:Nat) (os:List Int),i<=zs.length/\s4=.int .i64 i/\OwnI wr w.heap.size s3 os/\w.heap.size<=wr.heap.size/\Below w.heap.size w wr/\os.length<=i/\Hid ((∀ x,x∈os↔x∈zs.take i)/\os.Pairwise (· < ·))) (fun _ s4 _=>zs.length-(intOf s4).toNat)
 case atStart=>exact⟨0,[],Nat.zero_le _,rfl,Zif w _ (Nat.le_refl _),by simp,Zae w _,by simp,Hd ⟨fun x=>by simp,List.Pairwise.nil⟩⟩
 case round =>
  obtain⟨i,os,hi,rfl,g0,g6,g1,gk,HP⟩:=hrel
  by_cases gd:i<zs.length
  ·obtain⟨b,off,rfl,hc⟩:=(HI.out.below g1).cells i gd;have gg:(i:Int)<zs.length:=by omega
   obtain⟨z,hz⟩:∃ z,z=at0 zs i:=⟨_,rfl⟩;rw[<- hz] at hc;obtain⟨ao,co,rfl,g8,gj⟩:=g0.sliceIs (by omega);have g4:=Hd (Zwr ao co os z wr (by omega) g8);have g3:Hid (z∉os->_):=Hd fun h=>Zx3 ao co os z wr (by omega) g8 HP.out.2 h
   have ga:=Hd g0;have g5:=Hd g1;have HT:=Hd (Zib gd);have HZ:=Hd hz;clear g0 g1 hz g8
   by_cases hm:z∈os
   ·have hb:decide (z∈os)=true:=by simp[hm]
    rw[hb] at g4
    have gc:Hid ((∀ x,x∈os↔x∈zs.take (i+1))/\os.Pairwise (· < ·)):=Hd ⟨fun x=>by
     rw[HT.out x,<- HZ.out];constructor
     . intro h;exact .inl ((HP.out.1 x).1 h)
     ·rintro(h|rfl)
      . exact(HP.out.1 x).2 h
      . exact hm,HP.out.2⟩
    clear hm hb g3;go_wp2_with fail;refine g4.out.mono ?_;rintro y w' ⟨rfl,rfl⟩;go_wp2_with fail;go_roundw
    case rel=>exact⟨i+1,os,by omega,by go_num,ga.out,g6,g5.out,by omega,gc⟩
    case measure=>simp[intOf];omega
   ·have hb:decide (z∈os)=false:=by simp[hm]
    rw[hb] at g4;have g3:=Hd (g3.out hm);clear hm hb;go_wp2_with fail;refine g4.out.mono ?_;rintro y w' ⟨rfl,rfl⟩;go_wp2_with fail;refine g3.out.mono ?_;rintro y w2 ⟨u,os2,rfl,g7,g2,gi,g9⟩
    have gc:Hid ((∀ x,x∈os2↔x∈zs.take (i+1))/\os2.Pairwise (· < ·)):=Hd ⟨fun x=>by
     rw[g2.1 x,HT.out x,<- HZ.out,HP.out.1 x],g2.2⟩
    have gh:Hid (OwnI w2 w.heap.size u os2):=Hd (g7.lower g6);have HB2:=Hd (g5.out.trans (g9.mono g6));have gf:w.heap.size<=w2.heap.size:=Nat.le_trans g6 g9.size;clear g7 g2 g9;go_wp2_with fail;go_roundw
    case rel=>exact⟨i+1,os2,by omega,by go_num,gh.out,gf,HB2.out,by omega,gc⟩
    case measure=>simp[intOf];omega
  ·have he:i=zs.length:=by omega
   have gg:¬ (i:Int)<zs.length:=by omega
   have ga:=Hd g0;have g5:=Hd g1;have HM:Hid ((∀ x,x∈os↔x∈zs)/\os.Pairwise (· < ·)):=Hd ⟨fun x=>by have:=HP.out.1 x;rw[he,List.take_length] at this;exact this,HP.out.2⟩;have ge:os.length<=zs.length:=by omega
   clear g0 g1 he;go_wp2_with fail;go_ret;exact⟨_,rfl,os,ga.out,HM.out,ge,g5.out⟩
theorem Za4.agg {w:World}{e:ExT}{x:Value}(h:Za4 w e x):∃ x0 x1 x2,x=.agg #[x0,x1,x2]/\x0.cells=#[x0]/\x1.cells=#[x1]/\x2.cells=#[x2]:=by
 cases e with
 | nil=>unfold Za4 at h;exact h.elim
 | mk op v n kid =>
   unfold Za4 at h;obtain⟨a,c,rfl,_⟩:=h;exact⟨_,_,_,rfl,rfl,rfl,rfl⟩
theorem Zop (e:ExT)(x:Value)(w:World)(hs:e.size<=4096)(h:Za4 w e x) :
 Calls prog 52 #[x] w fun y w'=>∃ u os,y=.returned u/\SliceIs w' u os/\os.length<=4096/\(okT e 1->(∀ v,v∈os↔v∈Zcq e)/\os.Pairwise (· < ·))/\Below w.heap.size w w':=by
 have HC:Hid (∀ W,Below w.heap.size w W->∀ u,u=x->Calls prog 51 #[u] W fun y w'=>∃ err:Int,y=.returned (.int .i64 err)/\(err=0↔okT e 1)/\Below W.heap.size W w'):=Hd fun W hb u hu=>by subst hu;exact Zho e _ W hs (h.below hb)
 have HV:Hid (∀ W,Below w.heap.size w W->∀ u,u=x->Calls prog 107 #[u] W fun y w'=>∃ u,y=.returned u/\OwnI w' W.heap.size u (Zcq e)/\Below W.heap.size W w'):=Hd fun W hb u hu=>by subst hu;exact Zm7 e _ W hs (h.below hb)
 have ge:=Zfj e;obtain⟨x0,x1,x2,hx,o0,o1,o2⟩:=h.agg;subst hx;obtain⟨w1,g2⟩:∃ w1,w1=w.alloc (.cells #[x0,x1,x2] 79):=⟨_,rfl⟩;have HW1:Hid (_=w1):=Hd g2.symm;have g6:Hid (Below w.heap.size w w1):=by rw[g2];exact Hd (Zae _ _)
 have g0:w1.heap[w.heap.size]?=some (.cells #[x0,x1,x2] 79 (0,0)):=by rw[g2];exact heap_alloc_new _ _
 have d0:w1.cell? ⟨w.heap.size,0,none⟩=some x0:=by rw[cell_of_row _ _ 0 _ _ _ g0];rfl
 have d1:w1.cell? ⟨w.heap.size,1,none⟩=some x1:=by rw[cell_of_row _ _ 1 _ _ _ g0];rfl
 have d2:w1.cell? ⟨w.heap.size,2,none⟩=some x2:=by rw[cell_of_row _ _ 2 _ _ _ g0];rfl
 clear h g2 g0
 go_enter func52,ntmps52
 go_upto_region 1 with fail;rw[HW1.out];go_wp2_with fail;refine(HC.out _ g6.out _ rfl).mono ?_;rintro y w2 ⟨err,rfl,g5,g1⟩;have HB2:=Hd (g6.out.trans (g1.mono g6.out.size));have gd:=Hd g5;have e0:=(g1.cell (p:=⟨w.heap.size,0,none⟩) (Zab d0)).trans d0;have e1:=(g1.cell (p:=⟨w.heap.size,1,none⟩) (Zab d1)).trans d1;have e2:=(g1.cell (p:=⟨w.heap.size,2,none⟩) (Zab d2)).trans d2;clear g1 g5 d0 d1 d2
 by_cases he:err=0
 . subst he;go_wp2_with fail;refine(HV.out _ HB2.out _ rfl).mono ?_;rintro y w3 ⟨u,rfl,hu,g9⟩;obtain⟨au,cu,rfl,g7,gf⟩:=hu.sliceIs (by omega);have HO:=Hd (Zz8 au cu (Zcq e) w3 (by omega) g7);have ga:=Hd (HB2.out.trans (g9.mono HB2.out.size));clear hu g7 g9 e0 e1 e2;go_wp2_with fail;refine HO.out.mono ?_;rintro y w4 ⟨u4,os,rfl,g3,g4,gc,g8⟩;have HF:Hid (∃ u os,Ending.returned u4=.returned u/\SliceIs w4 u os/\os.length<=4096/\(okT e 1->(∀ v,v∈os↔v∈Zcq e)/\os.Pairwise (· < ·))/\Below w.heap.size w w4):=Hd ⟨u4,os,rfl,g3.sliceIs (by omega),by omega,fun _=>g4,ga.out.trans (g8.mono ga.out.size)⟩;clear g3 g4 gc g8;go_wp2_with fail;go_ret;exact HF.out
 ·have gg:(err != 0)=true:=by simpa using he
  have HF:Hid (∃ u os,Ending.returned (.slice none 0 0)=.returned u/\SliceIs w2 u os/\os.length<=4096/\(okT e 1->(∀ v,v∈os↔v∈Zcq e)/\os.Pairwise (· < ·))/\Below w.heap.size w w2):=Hd ⟨_,[],rfl,Zla w2,by simp,fun h=>(he (gd.out.2 h)).elim,HB2.out⟩;clear he e0 e1 e2;go_wp2_with fail;go_ret;exact HF.out
theorem Zoo (e:ExT)(x:Value)(w:World)(hs:e.size<=4096)(h:Za4 w e x) :
 Calls prog 52 #[x] w fun y w'=>∃ u os,y=.returned u/\SliceIs w' u os/\os.length<=4096/\(okT e 1->∀ v∈Zcq e,v∈os)/\Below w.heap.size w w' :=
 (Zop e x w hs h).mono fun _ _ ⟨u,os,h1,h2,h3,h4,h5⟩=>⟨u,os,h1,h2,h3,fun hk v hv=>((h4 hk).1 v).2 hv,h5⟩
open Go.RowKit
structure EvsAt (w:World)(a:Option Addr)(l:List Ev):Prop where
 len:l.length<=9223372036854775807
 cells:∀ k,∀ hk:k<l.length,∃ b off,a=some ⟨b,off,none⟩/\w.cell? ⟨b,off+k*3,none⟩=some (.int .i64 l[k].after)/\w.cell? ⟨b,off+k*3+1,none⟩=some (.int .i64 l[k].kind)/\w.cell? ⟨b,off+k*3+2,none⟩=some (.int .i64 l[k].level)
theorem EvsAt.below {w w':World}{a:Option Addr}{l:List Ev}(h:EvsAt w a l)(hb:Below w.heap.size w w'):EvsAt w' a l :=
 ⟨h.len,fun k hk=>by
  obtain⟨b,off,e,c0,c1,c2⟩:=h.cells k hk;exact⟨b,off,e,(hb.cell (p:=⟨b,off+k*3,none⟩) (Zab c0)).trans c0,(hb.cell (p:=⟨b,off+k*3+1,none⟩) (Zab c1)).trans c1,(hb.cell (p:=⟨b,off+k*3+2,none⟩) (Zab c2)).trans c2⟩⟩
def Zhd (vars:Int)(e:Ev):Int:=if e.kind<1\/e.kind>3 then 11 else if e.after<1\/(e.kind=2/\(e.level<0\/e.level>vars-2)) then 2 else 0
def Zlt (vars:Int):List Ev->Int
 | []=>0
 | e::r=>if Zhd vars e=0 then Zlt vars r else Zhd vars e
def Zes (vars waits:Int)(l:List Ev):Int:=if (l.length:Int)>256-waits then 18 else Zlt vars l
theorem Zg1 {vars:Int}{l:List Ev}{i:Nat}(hi:i<l.length):Zlt vars (l.drop i)=if Zhd vars l[i]=0 then Zlt vars (l.drop (i+1)) else Zhd vars l[i]:=by
 rw[List.drop_eq_getElem_cons hi];rfl
theorem Zuv (vars waits:Int)(hv:0<=vars/\vars<=1000)(hw:0<=waits/\waits<=1000)(a:Option Addr)(c:Nat)(l:List Ev)(w:World)(h:EvsAt w a l) :
 Calls prog 49 #[.int .i64 vars,.int .i64 waits,.slice a l.length c] w fun y w'=>y=.returned (.int .i64 (Zes vars waits l))/\w=w':=by
 have HI:=Hd h;have hl:=h.len;clear h
 by_cases g1:(l.length:Int)>256-waits
 ·have HR:Hid (Zes vars waits l=18):=Hd (by unfold Zes;rw[if_pos g1])
  go_enter func49,ntmps49
  go_wp2_with fail;go_ret;exact⟨by rw[HR.out];rfl,rfl⟩
 have HR:Hid (Zes vars waits l=Zlt vars (l.drop 0)):=Hd (by unfold Zes;rw[if_neg g1];rfl);obtain⟨P,hP⟩:∃ P,P=Zes vars waits l:=⟨_,rfl⟩;rw[<- hP] at HR ⊢;clear hP
 go_enter func49,ntmps49
 go_wp2_with fail
 go_loopw [7] (fun s7 wr=>∃ i:Nat,i<=l.length/\s7=.int .i64 i/\w=wr/\Hid (P=Zlt vars (l.drop i))) (fun s7 _=>l.length-(intOf s7).toNat)
 case atStart=>exact⟨0,Nat.zero_le _,rfl,rfl,HR⟩
 case round =>
  clear HR;obtain⟨i,hi,rfl,rfl,HP⟩:=hrel
  by_cases g2:i<l.length
  ·obtain⟨b,off,rfl,c0,c1,c2⟩:=HI.out.cells i g2;have g8:(i:Int)<l.length:=by omega
   have HC:Hid (∀ z:Int,Zhd vars l[i]=z->z≠0->P=z):=Hd fun z hz h0=>by rw[HP.out,Zg1 g2,hz,if_neg h0]
   have HN:Hid (Zhd vars l[i]=0->P=Zlt vars (l.drop (i+1))):=Hd fun hz=>by rw[HP.out,Zg1 g2,hz,if_pos rfl]
   have HE:Hid (Zhd vars l[i]=if l[i].kind<1\/l[i].kind>3 then 11 else if l[i].after<1\/(l[i].kind=2/\(l[i].level<0\/l[i].level>vars-2)) then 2 else 0):=Hd rfl;obtain⟨ev,g3⟩:∃ ev,ev=l[i]:=⟨_,rfl⟩;rw[<- g3] at c0 c1 c2 HC HN HE;obtain⟨af,ki,le⟩:=ev;dsimp only at c0 c1 c2 HE;clear g3 HP;have g6:ki<1\/ki>3\/(ki=2)\/(ki=1\/ki=3):=by omega
   rcases g6 with hk|hk|hk|hk
   . have g0:=Hd (HC.out 11 (by rw[HE.out,if_pos (.inl hk)]) (by decide));go_wp2_with fail;go_ret;exact⟨by rw[g0.out];rfl,rfl⟩
   ·have g0:=Hd (HC.out 11 (by rw[HE.out,if_pos (.inr hk)]) (by decide));have g7:¬ ki<1:=by omega
    go_wp2_with fail;go_ret;exact⟨by rw[g0.out];rfl,rfl⟩
   ·by_cases ha:af<1
    . have g0:=Hd (HC.out 2 (by rw[HE.out,if_neg (by omega),if_pos (.inl ha)]) (by decide));subst hk;go_wp2_with fail;go_ret;exact⟨by rw[g0.out];rfl,rfl⟩
    ·by_cases g5:le<0
     . have g0:=Hd (HC.out 2 (by rw[HE.out,if_neg (by omega),if_pos (.inr ⟨hk,.inl g5⟩)]) (by decide));subst hk;go_wp2_with fail;go_ret;exact⟨by rw[g0.out];rfl,rfl⟩
     ·by_cases g4:le>vars-2
      . have g0:=Hd (HC.out 2 (by rw[HE.out,if_neg (by omega),if_pos (.inr ⟨hk,.inr g4⟩)]) (by decide));subst hk;go_wp2_with fail;go_ret;exact⟨by rw[g0.out];rfl,rfl⟩
      ·have g0:=Hd (HN.out (by rw[HE.out,if_neg (by omega),if_neg (by omega)]));subst hk;go_wp2_with fail;go_roundw
       case rel=>exact⟨i+1,by omega,by go_num,by simp,g0⟩
       case measure=>simp[intOf];omega
   ·have g7:¬ ki<1:=by omega
    have ga:¬ ki>3:=by omega
    have g9:(ki == 2)=false:=by simp;omega
    by_cases ha:af<1
    . have g0:=Hd (HC.out 2 (by rw[HE.out,if_neg (by omega),if_pos (.inl ha)]) (by decide));clear hk;go_wp2_with fail;go_ret;exact⟨by rw[g0.out];rfl,rfl⟩
    ·have g0:=Hd (HN.out (by rw[HE.out,if_neg (by omega),if_neg (by omega)]));clear hk;go_wp2_with fail;go_roundw
     case rel=>exact⟨i+1,by omega,by go_num,by simp,g0⟩
     case measure=>simp[intOf];omega
  ·have he:i=l.length:=by omega
   have g8:¬ (i:Int)<l.length:=by omega
   have g0:Hid (P=0):=Hd (by rw[HP.out,he,List.drop_length];rfl);clear he;go_wp2_with fail;go_ret;exact⟨by rw[g0.out];rfl,rfl⟩
open Go.RowKit
def cntP (zs:List Int)(v:Int)(i:Nat):Nat:=((zs.take i).filter (fun z=>decide (z=v))).length
theorem Zfl {zs:List Int}{v:Int}{i:Nat}(hi:i<zs.length)(h:at0 zs i=v):cntP zs v (i+1)=cntP zs v i+1:=by
 rw[Zax hi] at h;unfold cntP;rw[List.take_succ_eq_append_getElem hi,List.filter_append];simp[h]
theorem Zrc {zs:List Int}{v:Int}{i:Nat}(hi:i<zs.length)(h:at0 zs i≠v):cntP zs v (i+1)=cntP zs v i:=by
 rw[Zax hi] at h;unfold cntP;rw[List.take_succ_eq_append_getElem hi,List.filter_append];simp[h]
theorem Yce (zs:List Int)(v:Int)(i:Nat):cntP zs v i<=i:=by
 unfold cntP;refine Nat.le_trans (List.length_filter_le _ _) ?_;rw[List.length_take];omega
def Zfc (zs:List Int)(n:Int):Bool:=decide ((zs.length:Int)=n/\∀ v,v<zs.length->cntP zs (v:Nat) zs.length=1)
theorem Zk3 (a:Option Addr)(c:Nat)(zs:List Int)(n:Int)(w:World)(hz:Zav w a zs)(hl:zs.length<=1000000) :
 Calls prog 23 #[.slice a zs.length c,.int .i64 n] w fun x w'=>x=.returned (.bool (Zfc zs n))/\w=w':=by
 have HZ:=Hd hz;clear hz
 by_cases hn:(zs.length:Int)=n
 ·subst hn;have HR:Hid (∀ b:Bool,(b=true↔∀ v,v<zs.length->cntP zs (v:Nat) zs.length=1)->Zfc zs zs.length=b):=by
   refine Hd fun b hb=>?_
   unfold Zfc;rw[Bool.eq_iff_iff,hb];simp
  go_enter func23,ntmps23
  go_wp2_with fail
  go_loopw [5] (fun s5 wr=>∃ k:Nat,k<=zs.length/\s5=.int .i64 k/\w=wr/\∀ v,v<k->cntP zs (v:Nat) zs.length=1) (fun s5 _=>zs.length-(intOf s5).toNat)
  case atStart=>exact⟨0,Nat.zero_le _,rfl,rfl,fun v hv=>by omega⟩
  case round =>
   obtain⟨k,hk,rfl,rfl,g2⟩:=hrel;have HA:=Hd g2;clear g2
   by_cases g3:k<zs.length
   ·have g4:(k:Int)<zs.length:=by omega
    go_wp2_with fail
    go_loopw [6,7] (fun s6 s7 wx=>∃ i:Nat,i<=zs.length/\s7=.int .i64 i/\s6=.int .i64 (cntP zs (k:Nat) i:Nat)/\w=wx) (fun _ s7 _=>zs.length-(intOf s7).toNat)
    case atStart=>exact⟨0,Nat.zero_le _,rfl,rfl,rfl⟩
    case round =>
     obtain⟨i,hi,rfl,rfl,rfl⟩:=hrel;have g6:=Yce zs (k:Nat) i
     by_cases g1:i<zs.length
     ·obtain⟨b,off,ha,hc⟩:=HZ.out.cells i g1;subst ha;have g5:(i:Int)<zs.length:=by omega
      by_cases he:at0 zs i=(k:Nat)
      ·rw[he] at hc;have HY:=Hd (Zfl g1 he);go_wp2_with fail;go_roundw
       case rel=>exact⟨i+1,by omega,by go_num,by rw[HY.out];go_num,trivial⟩
       case measure=>simp[intOf];omega
      ·have g0:((at0 zs i:Int) == (k:Nat))=false:=by simpa using he
       have HY:=Hd (Zrc g1 he)
       generalize at0 zs i=z at hc g0
       clear he;go_wp2_with fail;go_roundw
       case rel=>exact⟨i+1,by omega,by go_num,by rw[HY.out],trivial⟩
       case measure=>simp[intOf];omega
     ·obtain rfl:i=zs.length:=by omega
      generalize hq:cntP zs (k:Nat) zs.length=q at *
      by_cases h1:q=1
      ·subst h1;have HQ:=Hd hq;clear hq;go_wp2_with fail;go_roundw
       case rel =>
        refine⟨k+1,by omega,by go_num,trivial,fun v hv=>?_⟩
        by_cases e:v=k
        . subst e;exact HQ.out
        . exact HA.out v (by omega)
       case measure=>simp[intOf];omega
      ·have g0:((q:Int) == 1)=false:=by simp;omega
       have HQ:=Hd hq;clear hq;go_wp2_with fail;go_ret;refine⟨?_,rfl⟩
       rw[HR.out false (by
        simp only[Bool.false_eq_true,false_iff];intro hh;exact h1 ((HQ.out).symm.trans (hh k g3)))]
       rfl
   ·obtain rfl:k=zs.length:=by omega
    go_wp2_with fail;go_ret;refine⟨?_,rfl⟩;rw[HR.out true (by simp only[true_iff];exact HA.out)];rfl
 ·have g0:(((zs.length:Nat):Int) == n)=false:=by simpa using hn
  have HR:Hid (Zfc zs n=false):=by
   refine Hd ?_
   show Zfc zs n=false
   unfold Zfc;simp[hn]
  go_enter func23,ntmps23
  go_wp2_with fail;go_ret;exact⟨by rw[HR.out];rfl,rfl⟩
open Go.RowKit
theorem Yah (a:Option Addr)(c:Nat)(zs:List Int)(n:Int)(w:World)(hz:Zav w a zs)(hn:(zs.length:Int)≠n) :
 Calls prog 23 #[.slice a zs.length c,.int .i64 n] w fun x w'=>x=.returned (.bool false)/\w=w':=by
 have hl:=hz.len;have g0:(((zs.length:Nat):Int) == n)=false:=by simpa using hn
 clear hz
 go_enter func23,ntmps23
 go_wp2_with fail;go_ret;exact⟨rfl,rfl⟩
theorem Zx8 (a:Option Addr)(c:Nat)(zs:List Int)(n:Int)(w:World)(hz:Zav w a zs)(hn:n<=1000) :
 Calls prog 23 #[.slice a zs.length c,.int .i64 n] w fun x w'=>x=.returned (.bool (Zfc zs n))/\w=w':=by
 by_cases h:(zs.length:Int)=n
 . exact Zk3 a c zs n w hz (by omega)
 ·have:Zfc zs n=false:=by unfold Zfc;simp[h]
  rw[this];exact Yah a c zs n w hz h
theorem Za4.parts {w:World}{e:ExT}{x0 x1 x2:Value}(h:Za4 w e (.agg #[x0,x1,x2])):∃ op v a n c,x0=.int .i64 op/\x1=.int .i64 v/\x2=.slice a n c:=by
 cases e with
 | nil=>unfold Za4 at h;exact h.elim
 | mk op v n kid =>
   unfold Za4 at h;obtain⟨a,c,hx,_⟩:=h;cases hx;exact⟨_,_,_,_,_,rfl,rfl,rfl⟩
structure Zj9 (w:World)(a:Option Addr)(l:List ExT):Prop where
 len:l.length<=9223372036854775807
 cells:∀ k,∀ hk:k<l.length,∃ b off x0 x1 x2,a=some ⟨b,off,none⟩/\w.cell? ⟨b,off+k*3,none⟩=some x0/\w.cell? ⟨b,off+k*3+1,none⟩=some x1/\w.cell? ⟨b,off+k*3+2,none⟩=some x2/\Za4 w l[k] (.agg #[x0,x1,x2])
theorem Zj9.below {w w':World}{a:Option Addr}{l:List ExT}(h:Zj9 w a l)(hb:Below w.heap.size w w'):Zj9 w' a l :=
 ⟨h.len,fun k hk=>by
  obtain⟨b,off,x0,x1,x2,e,c0,c1,c2,hx⟩:=h.cells k hk;exact⟨b,off,x0,x1,x2,e,(hb.cell (p:=⟨b,off+k*3,none⟩) (Zab c0)).trans c0,(hb.cell (p:=⟨b,off+k*3+1,none⟩) (Zab c1)).trans c1,(hb.cell (p:=⟨b,off+k*3+2,none⟩) (Zab c2)).trans c2,hx.below hb⟩⟩
structure AskD where
 vars:Int
 order:List Int
 es:List ExT
 plan:List Ev
structure AskAt (w:World)(q:AskD)(ao ae ap:Option Addr):Prop where
 vars:okI q.vars
 order:Zav w ao q.order
 es:Zj9 w ae q.es
 plan:EvsAt w ap q.plan
theorem AskAt.below {w w':World}{q:AskD}{ao ae ap:Option Addr}(h:AskAt w q ao ae ap)(hb:Below w.heap.size w w'):AskAt w' q ao ae ap:=⟨h.vars,h.order.below hb,h.es.below hb,h.plan.below hb⟩
structure Zhc (q:AskD):Prop where
 lo:1<=q.vars
 hi:q.vars<=6
 es:q.es.length<=5
 plan:q.plan.length<=6
 order:q.order.length>0->Zfc q.order q.vars=true
 planOk:Zes q.vars 0 q.plan=0
 after:∀ ev∈q.plan,ev.after<=300
 expr:∀ e∈q.es,e.size<=40/\okT e 1/\∀ v∈Zcq e,v<q.vars
def askV (q:AskD)(ao ae ap:Option Addr)(co ce cp:Nat):Value:=.agg #[.int .i64 q.vars,.slice ao q.order.length co,.slice ae q.es.length ce,.slice ap q.plan.length cp]
theorem Zlc (q:AskD)(ao ae ap:Option Addr)(co ce cp:Nat)(w:World)(h:AskAt w q ao ae ap) :
 Calls prog 14 #[askV q ao ae ap co ce cp] w fun y w'=>∃ b,y=.returned (.bool b)/\(b=true->Zhc q)/\Below w.heap.size w w':=by
 obtain⟨vars,order,es,plan⟩:=q;obtain⟨hv,ho,he,hp⟩:=h;dsimp only [askV] at hv ho he hp ⊢;unfold okI at hv;have hd:=ho.len;have hm:=he.len;have hc:=hp.len;have HO:=Hd ho;have HE:=Hd he;have HP:=Hd hp;obtain⟨w1,gh⟩:∃ w1,w1=w.alloc (.cells #[.int .i64 vars,.slice ao order.length co,.slice ae es.length ce,.slice ap plan.length cp] 26):=⟨_,rfl⟩;have HW1:Hid (_=w1):=Hd gh.symm;have g9:Hid (Below w.heap.size w w1):=by rw[gh];exact Hd (Zae _ _)
 have g0:w1.heap[w.heap.size]?=some (.cells #[.int .i64 vars,.slice ao order.length co,.slice ae es.length ce,.slice ap plan.length cp] 26 (0,0)):=by rw[gh];exact heap_alloc_new _ _
 have d0:w1.cell? ⟨w.heap.size,0,none⟩=some (.int .i64 vars):=by rw[cell_of_row _ _ 0 _ _ _ g0];rfl
 have d1:w1.cell? ⟨w.heap.size,1,none⟩=some (.slice ao order.length co):=by rw[cell_of_row _ _ 1 _ _ _ g0];rfl
 have d2:w1.cell? ⟨w.heap.size,2,none⟩=some (.slice ae es.length ce):=by rw[cell_of_row _ _ 2 _ _ _ g0];rfl
 have d3:w1.cell? ⟨w.heap.size,3,none⟩=some (.slice ap plan.length cp):=by rw[cell_of_row _ _ 3 _ _ _ g0];rfl
 have hs1:w1.heap.size=w.heap.size+1:=by rw[gh];simp
 have ge:Hid (vars<=6->Calls prog 23 #[.slice ao order.length co,.int .i64 vars] w1 fun x w'=>x=.returned (.bool (Zfc order vars))/\w1=w'):=Hd fun hh=>Zx8 ao co order vars w1 (HO.out.below g9.out) (by omega)
 have gf:Hid (0<=vars->vars<=6->Calls prog 49 #[.int .i64 vars,.int .i64 0,.slice ap plan.length cp] w1 fun x w'=>x=.returned (.int .i64 (Zes vars 0 plan))/\w1=w'):=Hd fun h1 h2=>Zuv vars 0 ⟨h1,by omega⟩ ⟨by omega,by omega⟩ ap cp plan w1 (HP.out.below g9.out)
 obtain⟨P,hP⟩:∃ P:Ending->World->Prop,P=fun y w'=>∃ b,y=.returned (.bool b)/\(b=true->Zhc ⟨vars,order,es,plan⟩)/\Below w.heap.size w w':=⟨_,rfl⟩
 have gl:Hid (∀ W,Below w1.heap.size w1 W->P (.returned (.bool false)) W):=by rw[hP];exact Hd fun W hb=>⟨false,rfl,by simp,g9.out.trans (hb.mono g9.out.size)⟩
 have gM:Hid (Zhc ⟨vars,order,es,plan⟩->∀ W,Below w1.heap.size w1 W->P (.returned (.bool true)) W):=by rw[hP];exact Hd fun hq W hb=>⟨true,rfl,fun _=>hq,g9.out.trans (hb.mono g9.out.size)⟩
 rw[<- hP];clear ho he hp gh g0 hP
 go_enter func14,ntmps14
 go_upto_region 1 with fail;rw[HW1.out]
 go_cut [50] (fun s50 wx=>∃ bad:Bool,s50=.bool bad/\wx=w1/\Hid (bad=false->1<=vars/\vars<=6/\es.length<=5/\plan.length<=6/\(order.length>0->Zfc order vars=true)/\Zes vars 0 plan=0))
 case first =>
  by_cases h1:vars<1
  ·go_wp2_with fail;go_meet
   case rel=>exact⟨true,rfl,rfl,Hd (by simp)⟩
  by_cases h2:vars>6
  ·go_wp2_with fail;go_meet
   case rel=>exact⟨true,rfl,rfl,Hd (by simp)⟩
  by_cases h3:(es.length:Int)>5
  ·go_wp2_with fail;go_meet
   case rel=>exact⟨true,rfl,rfl,Hd (by simp)⟩
  by_cases h4:(plan.length:Int)>6
  ·go_wp2_with fail;go_meet
   case rel=>exact⟨true,rfl,rfl,Hd (by simp)⟩
  have gf:=Hd (gf.out (by omega) (by omega));have ge:=Hd (ge.out (by omega));obtain⟨pr,gq⟩:∃ pr,pr=Zes vars 0 plan:=⟨_,rfl⟩;rw[<- gq] at gf;have gI:=Hd gq;clear gq
  by_cases h5:(order.length:Int)>0
  ·obtain⟨rb,gp⟩:∃ rb,rb=Zfc order vars:=⟨_,rfl⟩;rw[<- gp] at ge;have gU:=Hd gp;clear gp;cases rb with
   | false =>
     go_wp2_with fail;refine ge.out.mono ?_;rintro y w' ⟨rfl,rfl⟩;go_wp2_with fail;go_meet
     case rel=>exact⟨true,rfl,rfl,Hd (by simp)⟩
   | true =>
     go_wp2_with fail;refine ge.out.mono ?_;rintro y w' ⟨rfl,rfl⟩;go_wp2_with fail;refine gf.out.mono ?_;rintro y w' ⟨rfl,rfl⟩
     by_cases h6:pr=0
     ·have gg:Hid (1<=vars/\vars<=6/\es.length<=5/\plan.length<=6/\(order.length>0->Zfc order vars=true)/\Zes vars 0 plan=0):=Hd ⟨by omega,by omega,by omega,by omega,fun _=>gU.out.symm,by rw[<- gI.out,h6]⟩;subst h6;go_wp2_with fail;go_meet
      case rel=>exact⟨false,rfl,rfl,Hd fun _=>gg.out⟩
     ·have gS:(pr != 0)=true:=by simpa using h6
      clear h6;go_wp2_with fail;go_meet
      case rel=>exact⟨true,rfl,rfl,Hd (by simp)⟩
  ·go_wp2_with fail;refine gf.out.mono ?_;rintro y w' ⟨rfl,rfl⟩
   by_cases h6:pr=0
   ·have gg:Hid (1<=vars/\vars<=6/\es.length<=5/\plan.length<=6/\(order.length>0->Zfc order vars=true)/\Zes vars 0 plan=0):=Hd ⟨by omega,by omega,by omega,by omega,fun _=>by omega,by rw[<- gI.out,h6]⟩;subst h6;go_wp2_with fail;go_meet
    case rel=>exact⟨false,rfl,rfl,Hd fun _=>gg.out⟩
   ·have gS:(pr != 0)=true:=by simpa using h6
    clear h6;go_wp2_with fail;go_meet
    case rel=>exact⟨true,rfl,rfl,Hd (by simp)⟩
 case rest =>
  obtain⟨bad,rfl,rfl,gB⟩:=hcut;clear ge gf;cases bad with
  | true =>
    go_wp2_with fail;exact gl.out _ (Below.refl _ _)
  | false =>
    obtain⟨g1,g2,g3,g4,g5,g6⟩:=gB.out rfl;have gZ:=Hd g5;have gY:=Hd g6;clear g5 g6 gB;go_upto_region 3 with fail;go_wp2_with fail
    go_loopw [4,54] (fun s4 s54 wr=>∃ k:Nat,k<=plan.length/\s54=.int .i64 k/\Below wc.heap.size wc wr/\Hid (∀ ev∈plan.take k,ev.after<=300)) (fun _ s54 _=>plan.length-(intOf s54).toNat)
    case atStart=>exact⟨0,Nat.zero_le _,rfl,Below.refl _ _,Hd fun ev he=>by simp at he⟩
    case round =>
     obtain⟨k,hk,rfl,g7,HA⟩:=hrel
     by_cases gi:k<plan.length
     ·obtain⟨b,off,rfl,c0,c1,c2⟩:=((HP.out.below g9.out).below g7).cells k gi;have gP:(k:Int)<plan.length:=by omega
      have g8:=Hd g7;have gk:Hid (∀ ev∈plan.take (k+1),ev∈plan.take k\/ev=plan[k]):=Hd fun ev he=>by
       rw[List.take_succ_eq_append_getElem gi,List.mem_append,List.mem_singleton] at he;exact he
      obtain⟨ev,ga⟩:∃ ev,ev=plan[k]:=⟨_,rfl⟩;rw[<- ga] at c0 c1 c2 gk;obtain⟨af,ki,le⟩:=ev;dsimp only at c0 c1 c2;clear ga g7
      by_cases hn:af>300
      . have HF:=Hd (gl.out _ (g8.out.trans ((Zae wr (.cells #[.int .i64 af,.int .i64 ki,.int .i64 le] 77)).mono g8.out.size)));go_wp2_with fail;exact HF.out
      ·have HF:=Hd (g8.out.trans ((Zae wr (.cells #[.int .i64 af,.int .i64 ki,.int .i64 le] 77)).mono g8.out.size));have h7:Hid (∀ ev∈plan.take (k+1),ev.after<=300):=Hd fun ev he=>by
        rcases gk.out ev he with h|rfl
        . exact HA.out ev h
        . dsimp only;omega
       go_wp2_with fail;go_roundw
       case rel=>exact⟨k+1,by omega,by go_num,HF.out,h7⟩
       case measure=>simp[intOf];omega
     ·have h0:Hid (∀ ev∈plan,ev.after<=300):=Hd fun ev ga=>HA.out ev (by rw[List.take_of_length_le (by omega)];exact ga)
      have gP:¬ (k:Int)<plan.length:=by omega
      have d0':=(g7.cell (p:=⟨w.heap.size,0,none⟩) (Zab d0)).trans d0;have d2':=(g7.cell (p:=⟨w.heap.size,2,none⟩) (Zab d2)).trans d2;have g8:=Hd g7;obtain⟨wA,ha⟩:∃ wA,wA=wr:=⟨_,rfl⟩;clear g7;go_wp2_with fail
      go_loopw [6,8,65] (fun s6 s8 s65 wx=>∃ k:Nat,k<=es.length/\s65=.int .i64 k/\Below wc.heap.size wc wx/\Hid (∀ e∈es.take k,e.size<=40/\okT e 1/\∀ v∈Zcq e,v<vars)) (fun _ _ s65 _=>es.length-(intOf s65).toNat)
      case atStart=>exact⟨0,Nat.zero_le _,rfl,g8.out,Hd fun ev he=>by simp at he⟩
      case round =>
       rename World=>wy
       obtain⟨j,hj,rfl,gj,HB⟩:=hrel
       by_cases gi:j<es.length
       ·obtain⟨b,off,x0,x1,x2,rfl,c0,c1,c2,hx⟩:=((HE.out.below g9.out).below gj).cells j gi;have gQ:(j:Int)<es.length:=by omega
        have gK:=Hd gj;have gk:Hid (∀ e∈es.take (j+1),e∈es.take j\/e=es[j]):=Hd fun e he=>by
         rw[List.take_succ_eq_append_getElem gi,List.mem_append,List.mem_singleton] at he;exact he
        have gv:=(gj.cell (p:=⟨w.heap.size,0,none⟩) (Zab d0)).trans d0;obtain⟨e,ga⟩:∃ e,e=es[j]:=⟨_,rfl⟩;rw[<- ga] at hx gk;have HX:=Hd hx;obtain⟨zo,zv,za,zn,zc,rfl,rfl,rfl⟩:=hx.parts;clear ga gj hx;go_upto_region 12 with fail;obtain⟨wz,gm⟩:∃ wz,wz=wy.alloc (.cells #[.int .i64 zo,.int .i64 zv,.slice za zn zc] 79):=⟨_,rfl⟩;have go:Below wy.heap.size wy wz:=by rw[gm];exact Zae _ _
        have g0:wz.heap[wy.heap.size]?=some (.cells #[.int .i64 zo,.int .i64 zv,.slice za zn zc] 79 (0,0)):=by rw[gm];exact heap_alloc_new _ _
        have k0:wz.cell? ⟨wy.heap.size,0,none⟩=some (.int .i64 zo):=by rw[cell_of_row _ _ 0 _ _ _ g0];rfl
        have k1:wz.cell? ⟨wy.heap.size,1,none⟩=some (.int .i64 zv):=by rw[cell_of_row _ _ 1 _ _ _ g0];rfl
        have k2:wz.cell? ⟨wy.heap.size,2,none⟩=some (.slice za zn zc):=by rw[cell_of_row _ _ 2 _ _ _ g0];rfl
        have kd:=(go.cell (p:=⟨w.heap.size,0,none⟩) (Zab gv)).trans gv;have gx:=Hd (HX.out.below go);have gJ:=Hd (gK.out.trans (go.mono gK.out.size));rw[<- gm];clear gm go g0 c0 c1 c2 gv;go_wp2_with fail;refine(Zp4 e _ 40 _ (by omega) gx.out).mono ?_;rintro y wp ⟨⟨r,rfl,_,_,gD⟩,gd⟩;have gA:=Hd (gJ.out.trans (gd.mono gJ.out.size));have gy:=Hd (gx.out.below gd);have m0:=(gd.cell (p:=⟨wy.heap.size,0,none⟩) (Zab k0)).trans k0;have m1:=(gd.cell (p:=⟨wy.heap.size,1,none⟩) (Zab k1)).trans k1;have m2:=(gd.cell (p:=⟨wy.heap.size,2,none⟩) (Zab k2)).trans k2;have md:=(gd.cell (p:=⟨w.heap.size,0,none⟩) (Zab kd)).trans kd;clear gd k0 k1 k2 kd
        by_cases hr:(r:Int)>40
        . have HF:=Hd (gl.out _ gA.out);go_wp2_with fail;exact HF.out
        have gC:e.size<=40:=by have:=gD (by omega);omega
        clear gD;go_wp2_with fail;refine(Zho e _ _ (by omega) gy.out).mono ?_;rintro y wq ⟨err,rfl,gu,gc⟩;have gz:=Hd (gA.out.trans (gc.mono gA.out.size));have gF:=Hd (gy.out.below gc);have n0:=(gc.cell (p:=⟨wy.heap.size,0,none⟩) (Zab m0)).trans m0;have n1:=(gc.cell (p:=⟨wy.heap.size,1,none⟩) (Zab m1)).trans m1;have n2:=(gc.cell (p:=⟨wy.heap.size,2,none⟩) (Zab m2)).trans m2;have nd:=(gc.cell (p:=⟨w.heap.size,0,none⟩) (Zab md)).trans md;have gX:=Hd gu;clear gc m0 m1 m2 md gu
        by_cases gn:err=0
        ·have gg:=Hd (gX.out.1 gn);subst gn;go_wp2_with fail;refine(Zoo e _ _ (by omega) gF.out).mono ?_;rintro y ws ⟨u,os,rfl,gO,h8,gr,gw⟩;obtain⟨au,cu,rfl,gE,hf⟩:=gO;have gL:=Hd (gz.out.trans (gw.mono gz.out.size));have pd:=(gw.cell (p:=⟨w.heap.size,0,none⟩) (Zab nd)).trans nd;have gV:=Hd gE;have gN:=Hd (gr gg.out);clear gw n0 n1 n2 nd gE gr HX gx gy gF;go_wp2_with fail
         go_loopw [8,80] (fun s8 s80 wt=>∃ i:Nat,i<=os.length/\s80=.int .i64 i/\wt=ws/\Hid (∀ v∈os.take i,v<vars)) (fun _ s80 _=>os.length-(intOf s80).toNat)
         case atStart=>exact⟨0,Nat.zero_le _,rfl,rfl,Hd fun v hv=>by simp at hv⟩
         case round =>
          obtain⟨i,hi,rfl,rfl,gG⟩:=hrel
          by_cases gt:i<os.length
          ·obtain⟨b2,of2,rfl,cc⟩:=gV.out.cells i gt;have gR:(i:Int)<os.length:=by omega
           have gH:=Hd (Zib gt);obtain⟨z,hz⟩:∃ z,z=at0 os i:=⟨_,rfl⟩;rw[<- hz] at cc gH;clear hz
           by_cases h9:z>=vars
           . have HF:=Hd (gl.out _ gL.out);go_wp2_with fail;exact HF.out
           ·have gT:Hid (∀ v∈os.take (i+1),v<vars):=Hd fun v hv=>by
             rcases(gH.out v).1 hv with h|rfl
             . exact gG.out v h
             . omega
            go_wp2_with fail;go_roundw
            case rel=>exact⟨i+1,by omega,by go_num,by simp,gT⟩
            case measure=>simp[intOf];omega
          ·have gR:¬ (i:Int)<os.length:=by omega
           have HB2:Hid (∀ e∈es.take (j+1),e.size<=40/\okT e 1/\∀ v∈Zcq e,v<vars):=Hd fun e' he'=>by
            rcases gk.out e' he' with h|rfl
            . exact HB.out e' h
            . exact⟨gC,gg.out,fun v hv=>gG.out v (by rw[List.take_of_length_le (by omega)];exact gN.out v hv)⟩
           go_wp2_with fail;go_roundw
           case rel=>exact⟨j+1,by omega,by go_num,gL.out,HB2⟩
           case measure=>simp[intOf];omega
        ·have hg:(err != 0)=true:=by simpa using gn
         have HF:=Hd (gl.out _ gz.out);clear gn;go_wp2_with fail;exact HF.out
       ·have gQ:¬ (j:Int)<es.length:=by omega
        have HF:=Hd (gM.out ⟨g1,g2,g3,g4,gZ.out,gY.out,h0.out,fun e he=>HB.out e (by rw[List.take_of_length_le (by omega)];exact he)⟩ _ gj);go_wp2_with fail;exact HF.out
end Go.Proofs.YtkidaindpahefaaGreat

namespace Go.Proofs.YtkidaindpahefaaGreat
open Go.Proofs.Tryz
open Go.RowKit Go.Shelf Go.Lib Go.Sort
theorem Zr6 (w:World)(blk m:Nat)(dk:Array (Nat×Nat))(os:Array Obj){g:Nat}(hg:g<w.heap.size)(hne:g≠blk):(sortWorldK Zdi 2 w blk 0 m dk os).heap[g]?=w.heap[g]?:=by
 unfold sortWorldK grow putRowK putRow mapBlock;simp[Array.getElem?_append,Array.getElem?_modify,Array.getElem_modify,hg,Ne.symm hne]
theorem Zyt (w:World)(blk m:Nat)(dk:Array (Nat×Nat))(os:Array Obj):w.heap.size<=(sortWorldK Zdi 2 w blk 0 m dk os).heap.size:=by
 have h:(sortWorldK Zdi 2 w blk 0 m dk os).heap.size=w.heap.size+os.size:=by
  unfold sortWorldK grow putRowK;simp
 omega
theorem Yd1 {w:World}{mb:Nat}{lm:List ((Nat×Nat)×Value)}{f:Nat×Nat->Option Nat}(h:Zbf w mb encE lm)(hf:∀ k,getL lm k=(f k).map (fun(id:Nat)=>Value.int .i64 id))(k:Nat×Nat) :
 (Instr.lookup 228 (.map (some mb)) (.agg #[.int .i64 k.1,.int .i64 k.2]) false).run prog w=.ok (.int .i64 ((f k).getD 0:Nat)) w:=by
 have h1:=h.lookup Zpn underlying228 zeroValue3 k false;rw[hf k] at h1;cases hk:f k with
 | none=>rw[hk] at h1;exact h1
 | some id=>rw[hk] at h1;exact h1
theorem Zrl {f:Nat×Nat->Option Nat}{ks:List (Nat×Nat)}{Bx t mb blk cap:Nat}{w:World}{lm:List ((Nat×Nat)×Value)}(hH:HoldsK Zdi 2 w blk 0 ks.toArray)(hblk:blk<w.heap.size)(hlen:ks.length<1000000000)
 (cB:w.cell? ⟨Bx,0,none⟩=some (.pointer (some ⟨t,0,none⟩))) (cT:w.cell? ⟨t,0,none⟩=some (.map (some mb))) (hm:Zbf w mb encE lm) (hf:∀ k,getL lm k=(f k).map (fun(id:Nat)=>Value.int .i64 id)) (n1:Bx≠blk) (n2:t≠blk) (n3:mb≠blk) :
 Calls prog 269 #[.slice (some ⟨blk,0,none⟩) ks.length cap,.func (.func 270) #[] #[.pointer (some ⟨Bx,0,none⟩)]] w fun e w'=>e=.returned (.tuple #[])/\∃ ks':List (Nat×Nat),ks'.Perm ks/\HoldsK Zdi 2 w' blk 0 ks'.toArray/\w.heap.size<=w'.heap.size/\w'.os=w.os/\w'.tape=w.tape/\w'.output=w.output/\∀ g,g<w.heap.size->g≠blk->w'.heap[g]?=w.heap[g]?:=by
 have g1:CmpLays prog 270 #[.pointer (some ⟨Bx,0,none⟩)] Zdi 2 (cfK f) blk 0 ks.toArray.size w:=by
  intro m os dk hs x y;have hk:∀ {p:Addr} {v:Value},w.cell? p=some v->p.block≠blk->(sortWorldK Zdi 2 w blk 0 m dk os).cell? p=some v:=fun hc hn=>(World.cell?_of_block (w:=w) (Zr6 w blk m dk os (Zab hc) hn)).trans hc
  refine Zuc f x y Bx t mb _ (hk cB n1) (hk cT n2) (fun W' k hb=>?_);obtain⟨es,c,g3,rest⟩:=hm.ex;refine Yd1 (lm:=lm) ⟨⟨es,c,Eq.trans ?_ g3,rest⟩,hm.nodup⟩ hf k;exact(hb.block mb (Nat.lt_of_lt_of_le hm.lt (Zyt w blk m dk os))).trans (Zr6 w blk m dk os hm.lt n3)
 have g0:=AnyQ.slices_SortFunc Tryz.sortKeys 2 Tryz.isAgg280 Tryz.sizeOf280 Zdi (fun _=>rfl) (fun x v hv=>by simp[Zdi] at hv;rcases hv with rfl|rfl<;>rfl) (cfK f) (swoK f) 270 #[.pointer (some ⟨Bx,0,none⟩)] blk 0 cap ks.toArray w (enters_of func270 (by kernel_rfl) rfl) g1 hH hblk (by simp;omega)
 change Calls prog 269 _ _ _ at g0
 have e:ks.toArray.size=ks.length:=by simp
 rw[e] at g0;refine g0.mono ?_;rintro x w' ⟨rfl,d',n,os,hp,_,rfl⟩;obtain⟨p1,_,p3⟩:=hp;have p1':d'.size=ks.length:=by simpa using p1
 refine⟨rfl,d'.toList,?_,?_,Zyt _ _ _ _ _,rfl,rfl,rfl,fun g hg g2=>Zr6 _ _ _ _ _ hg g2⟩
 ·have q1:d'.extract 0 ks.length=d':=by rw[<- p1'];simp
  rw[q1] at p3;simpa using p3
 . have h1:HoldsK Zdi 2 (Sort.ahead w n) blk 0 ks.toArray:=hH;have h2:=holdsK_putRowK Zdi 2 (Sort.ahead w n) blk 0 ks.toArray d' h1 (by simpa using p1');have h3:=holdsK_grow Zdi 2 (putRowK Zdi 2 (Sort.ahead w n) blk 0 d') os blk 0 d' (by simp[putRowK,putRow,mapBlock,hblk]) h2;simpa using(show HoldsK Zdi 2 (sortWorldK Zdi 2 w blk 0 n d' os) blk 0 d' from h3)
end Go.Proofs.YtkidaindpahefaaGreat

namespace Go.Proofs.YtkidaindpahefaaGreat
open Go.Proofs.Tryz
theorem Zwp {f:Nat×Nat->Option Nat}{ks:List (Nat×Nat)}{lm:List ((Nat×Nat)×Value)}(hp:ks.Perm (lm.map Prod.fst))(hn:(lm.map Prod.fst).Nodup)(hf:∀ k,getL lm k=(f k).map (fun(id:Nat)=>Value.int .i64 id)){xs:List ((Nat×Nat)×Nat)}(hx:xs=ks.map (fun k=>(k,(f k).getD 0))) :
 (xs.map Prod.fst).Nodup/\∀ k id,(k,id)∈xs↔f k=some id:=by
 subst hx;have e:(ks.map (fun k=>(k,(f k).getD 0))).map Prod.fst=ks:=by simp[List.map_map,Function.comp_def]
 have hm:∀ k,k∈ks↔f k≠none:=fun k=>by
  rw[hp.mem_iff];have h1:=Zd2 (l:=lm) (k:=k);rw[hf k] at h1;constructor
  . intro hk e;rw[e] at h1;obtain⟨p,g0,rfl⟩:=List.mem_map.1 hk;exact h1.1 rfl p g0 rfl
  ·intro hk
   by_cases hc:k∈lm.map Prod.fst
   . exact hc
   ·exfalso;have:=h1.2 (fun p g0 e=>hc (List.mem_map.2 ⟨p,g0,e⟩));cases h2:f k with
    | none=>exact hk h2
    | some i=>rw[h2] at this;cases this
 refine⟨by rw[e];exact hp.nodup_iff.2 hn,fun k id=>?_⟩;simp only[List.mem_map,Prod.mk.injEq];constructor
 ·rintro⟨k0,h0,rfl,rfl⟩;cases h2:f k0 with
  | none=>exact absurd h2 ((hm k0).1 h0)
  | some i=>rfl
 . intro h;exact⟨k,(hm k).2 (by rw[h];simp),rfl,by rw[h];rfl⟩
theorem Yav {α:Type}{G:List α->Prop}{xs:List α}(hg:G xs){k:Nat}{x:α}(hx:xs[k]?=some x):∃ suf,G (xs.take k++x::suf)/\xs.take (k+1)=xs.take k++[x]:=by
 obtain⟨hk,e⟩:=List.getElem?_eq_some_iff.1 hx;refine⟨xs.drop (k+1),?_,by rw[List.take_succ_eq_append_getElem hk,e]⟩;have:xs.take k++x::xs.drop (k+1)=xs:=by
  rw[<- e,<- List.drop_eq_getElem_cons hk];exact List.take_append_drop k xs
 rw[this];exact hg
open Go.RowKit
theorem Zhj {o:Own}{w:World}{sb:Nat}{d:Zad}{V:Nat->BF}(h:Zar o w sb d)(hlt:Zah o w)(hk:Zak d V)(f:Nat)(hf:okE (Zaa d) f)(v:Int) :
 Calls prog 258 #[.pointer (some ⟨sb,0,none⟩),.int .i64 f,.int .i64 v] w fun x w'=>x=.returned (.tuple #[.int .i64 (cofs d f v).1,.int .i64 (cofs d f v).2])/\Below w.heap.size w w':=by
 have HA:=Hd (Zg7 h hlt hk f hf);clear h hk hlt hf;unfold atV at HA;unfold cofs;cases hb:Zaa d (f/2) with
 | none =>
   rw[hb] at HA;clear hb
   go_enter func258,ntmps258
   go_wp2_with fail;refine HA.out.mono ?_;rintro x w' ⟨rfl,hb⟩;have HB:=Hd hb;clear hb;go_wp2_with fail
   go_ret2
   exact⟨rfl,HB.out⟩
 | some b =>
   rw[hb] at HA;clear hb
   by_cases e:(b.v:Int)=v
   ·subst e;have HE:Hid ((if (b.v:Int)=b.v then (eflip b.lo (eneg f),eflip b.hi (eneg f)) else (f,f))=(eflip b.lo (eneg f),eflip b.hi (eneg f))):=by show _=_;rw[if_pos rfl]
    go_enter func258,ntmps258
    go_wp2_with fail;refine HA.out.mono ?_;rintro x w' ⟨rfl,hb⟩;have HB:=Hd hb;clear hb;go_wp2_with fail
    go_ret2
    exact⟨by first|rfl|(rw[HE.out];rfl),HB.out⟩
   ·have HE:Hid ((if (b.v:Int)=v then (eflip b.lo (eneg f),eflip b.hi (eneg f)) else (f,f))=(f,f)):=by show _=_;rw[if_neg e]
    have H1:((b.v:Int) == v)=false:=by simpa using e
    go_enter func258,ntmps258
    go_wp2_with fail;refine HA.out.mono ?_;rintro x w' ⟨rfl,hb⟩;have HB:=Hd hb;clear hb;go_wp2_with fail
    go_ret2
    exact⟨by first|rfl|(rw[HE.out];rfl),HB.out⟩
def Zee (d:Zad)(k:Nat):Zad:={ d with vars:=(d.vars.set k (d.vars.getD (k+1) 0)).set (k+1) (d.vars.getD k 0),level:=(d.level.set (d.vars.getD k 0) (k+1)).set (d.vars.getD (k+1) 0) k }
theorem Zoi:(prog.info? 3).map (fun i=>i.size)=some 1:=by kernel_rfl
theorem Zfb {l:List Nat}{k:Nat}(hk:k<l.length):(l.map nat64)[k]?=some (.int .i64 (l.getD k 0:Nat)):=by
 rw[List.getElem?_map,List.getElem?_eq_getElem hk];simp[nat64,List.getD,hk]
theorem Zlr {o:Own}{w:World}{sb:Nat}{d:Zad}{s:Za5}(h:Zam o w sb d s)(k:Nat)(hk:k+1<d.vars.length)(hl:d.vars.length<=64)(ha:d.vars.getD k 0<d.level.length)(hb:d.vars.getD (k+1) 0<d.level.length) :
 Calls prog 220 #[.pointer (some ⟨s.lb,0,none⟩),.int .i64 k] w fun x w'=>x=.returned (.tuple #[])/\Zam o w' sb (Zee d k) s/\Chg Zap o o w w':=by
 obtain⟨d0,d1,_⟩:=cells2 h.lev;obtain⟨gv,cv,g5,g2,_⟩:=h.vars.shape (by omega);obtain⟨gl,cl,g6,g3,_⟩:=h.level.shape (by omega);have ge:=h.len;have r1:=h.vars;have r2:=h.level;rw[g5] at r1 d0;rw[g6] at r2 d1;have a0:=r1.cell k (by simp;omega);have a1:=r1.cell (k+1) (by simp;omega);rw[Zfb (by omega)] at a0;rw[Zfb hk] at a1;obtain⟨A,hA⟩:∃ A,A=d.vars.getD k 0:=⟨_,rfl⟩;obtain⟨B,hB⟩:∃ B,B=d.vars.getD (k+1) 0:=⟨_,rfl⟩;rw[<- hA] at a0 ha;rw[<- hB] at a1 hb;have b0:=r2.cell A (by simpa using ha);have b1:=r2.cell B (by simpa using hb);rw[Zfb ha] at b0;rw[Zfb hb] at b1;have fv:=r1.frozen;have fl:=r2.frozen;have go:(k:Int)<d.vars.length:=by omega
 have gn:(k:Int)+1<d.vars.length:=by omega
 have nvl:gv≠s.lb:=fun e=>by have:=h.ownl;rw[<- e,g2] at this;cases this
 have nll:gl≠s.lb:=fun e=>by have:=h.ownl;rw[<- e,g3] at this;cases this
 have nvg:gv≠gl:=fun e=>by rw[e,g3] at g2;cases g2
 have nvs:gv≠sb:=fun e=>by have:=h.own;rw[<- e,g2] at this;cases this
 have nls:gl≠sb:=fun e=>by have:=h.own;rw[<- e,g3] at this;cases this
 obtain⟨LA,ga⟩:∃ L,L=d.level.getD A 0:=⟨_,rfl⟩;obtain⟨LB,g9⟩:∃ L,L=d.level.getD B 0:=⟨_,rfl⟩;have gf:Hid (∀ w1 w2:World,w1.heap=w.heap->w1.os=w.os->w1.tape=w.tape->w1.output=w.output->w2=((((w1.setCell ⟨gv,k,none⟩ (.int .i64 B)).setCell ⟨gv,k+1,none⟩ (.int .i64 A)).setCell ⟨gl,A,none⟩ (.int .i64 (k+1:Nat))).setCell ⟨gl,B,none⟩ (.int .i64 k))->Zam o w2 sb (Zee d k) s/\Chg Zap o o w w2):=by
  refine Hd ?_;rintro w1 w2 e1 e2 e3 e4 rfl;have gk:w1.heap.size=w.heap.size:=by rw[e1]
  have gg:Below w.heap.size w w1:=⟨e2,e3,e4,by omega,fun k _=>by rw[e1]⟩;have gh:∀ g,g≠gv->g≠gl->((((w1.setCell ⟨gv,k,none⟩ (.int .i64 B)).setCell ⟨gv,k+1,none⟩ (.int .i64 A)).setCell ⟨gl,A,none⟩ (.int .i64 (k+1:Nat))).setCell ⟨gl,B,none⟩ (.int .i64 k)).heap[g]?=w.heap[g]?:=fun g n1 n2=>by
   rw[Zaf n2,Zaf n2,Zaf n1,Zaf n1,e1]
  have k1:∀ {g r},o g=some r->r ≠ .vars->r ≠ .level->((((w1.setCell ⟨gv,k,none⟩ (.int .i64 B)).setCell ⟨gv,k+1,none⟩ (.int .i64 A)).setCell ⟨gl,A,none⟩ (.int .i64 (k+1:Nat))).setCell ⟨gl,B,none⟩ (.int .i64 k)).heap[g]?=w.heap[g]?:=fun hg n1 n2=>gh _ (by rintro rfl;rw[g2] at hg;cases hg;exact n1 rfl) (by rintro rfl;rw[g3] at hg;cases hg;exact n2 rfl)
  have g7:=h.vars.keep (w':=w1) (fun g _=>by rw[e1]) (fun _ h=>h);rw[g5] at g7;have gc:=((((g7.stored k (.int .i64 B)).stored (k+1) (.int .i64 A)).setCell_other (p:=⟨gl,A,none⟩) (by rw[g3];simp) (.int .i64 (k+1:Nat))).setCell_other (p:=⟨gl,B,none⟩) (by rw[g3];simp) (.int .i64 k));have g8:=h.level.keep (w':=w1) (fun g _=>by rw[e1]) (fun _ h=>h);rw[g6] at g8;have gd:=(((g8.setCell_other (p:=⟨gv,k,none⟩) (by rw[g2];simp) (.int .i64 B)).setCell_other (p:=⟨gv,k+1,none⟩) (by rw[g2];simp) (.int .i64 A)).stored A (.int .i64 (k+1:Nat))).stored B (.int .i64 k)
  refine⟨⟨h.own,h.ownl,(k1 h.own (by simp) (by simp)).trans h.blk,(k1 h.ownl (by simp) (by simp)).trans h.lev,?_,?_,h.pool.keep (fun g r hg hr=>k1 hg (by rintro rfl;simp at hr) (by rintro rfl;simp at hr)) (fun _ _ h=>h),h.tabs.keep (fun g hg=>k1 hg (by simp) (by simp)) (fun _ h=>h),
   fun v hv=>(h.tab v hv).keep (fun g r hg hr=>k1 hg (by rintro rfl;simp at hr) (by rintro rfl;simp at hr)) (fun _ _ h=>h),h.counts.keep (fun g hg=>k1 hg (by simp) (by simp)) (fun _ h=>h),by simp[Zee,h.len],by simp[Zee,h.tlen]⟩,?_⟩
  . rw[g5];simp only[Zee,List.length_set,List.map_set,<- hA,<- hB];exact gc
  . rw[g6];simp only[Zee,List.length_set,List.map_set,<- hA,<- hB];exact gd
  . exact((((Chg.of_below gg Zap o).setCell (p:=⟨gv,k,none⟩) g2 (by simp[Zap]) _).setCell (p:=⟨gv,k+1,none⟩) g2 (by simp[Zap]) _).setCell (p:=⟨gl,A,none⟩) g3 (by simp[Zap]) _).setCell (p:=⟨gl,B,none⟩) g3 (by simp[Zap]) _
 rw[<- ga] at b0;rw[<- g9] at b1;have gq:(A:Int)<d.level.length:=by omega
 have gp:(B:Int)<d.level.length:=by omega
 have gr:=Hd r1;have gt:=Hd r2;have gj:IntKind.i64.wrap ((k:Int)+1)=((k+1:Nat):Int):=by rw[IntWalk.i64_in _ (by omega)];rfl
 have gm:((k+1:Nat):Int)<d.vars.length:=by omega
 clear h g5 g6 g2 g3 hA hB ga g9 r1 r2 ge
 go_enter func220,ntmps220
 go_upto_region 0 with fail
 go_quiet (fail)
 go_upto_region 1 with fail;refine Zan (fun W:World=>W.cell? ⟨s.lb,0,none⟩=some (.slice (some ⟨gv,0,none⟩) d.vars.length cv)/\True) true 16 [(0,false),(1,false),(2,false),(3,false),(4,false),(5,false),(6,false),(7,false),(8,false),(9,false),(10,false),(11,false),(12,false),(13,false),(14,true),(15,false),(16,true)] (by kernel_rfl) (by kernel_rfl) ⟨d0,trivial⟩ ?_;simp only[planned,Zdd]
 iterate 14
  refine Zaj rfl ?_;apply Exists.intro;refine⟨fun w' hw=>?_,?_⟩
  . obtain⟨h1,_⟩:=hw;go_simp;rfl
  simp only[Zai]
 refine Zkx (w':=(w.drewN nq).drew.setCell ⟨gv,k,none⟩ (.int .i64 B)) rfl rfl (Zdg (w:=(w.drewN nq).drew) Zoi a0 (fv _) rfl rfl) ⟨Zat (w:=(w.drewN nq).drew) d0 (.inl nvl),trivial⟩ ?_;simp only[Zai]
 iterate 1
  refine Zaj rfl ?_;apply Exists.intro;refine⟨fun w' hw=>?_,?_⟩
  . obtain⟨h1,_⟩:=hw;go_simp;rfl
  simp only[Zai]
 refine Zdn (w':=((w.drewN nq).drew.setCell ⟨gv,k,none⟩ (.int .i64 B)).setCell ⟨gv,k+1,none⟩ (.int .i64 A)) rfl rfl (Zdg Zoi (Zat (w:=(w.drewN nq).drew) a1 (.inr (by omega))) ((World.frozen?_setCell _ _ _ _).trans (fv _)) rfl rfl) ?_;simp only[Zai];obtain⟨w4,g4⟩:∃ w4,w4=((w.drewN nq).drew.setCell ⟨gv,k,none⟩ (.int .i64 B)).setCell ⟨gv,k+1,none⟩ (.int .i64 A):=⟨_,rfl⟩;have e1:w4.cell? ⟨s.lb,1,none⟩=some (.slice (some ⟨gl,0,none⟩) d.level.length cl):=by rw[g4];exact Zat (Zat (w:=(w.drewN nq).drew) d1 (.inl nvl)) (.inl nvl)
 have g0:w4.cell? ⟨gl,A,none⟩=some (.int .i64 LA):=by rw[g4];exact Zat (Zat (w:=(w.drewN nq).drew) b0 (.inl nvg)) (.inl nvg)
 have g1:w4.cell? ⟨gl,B,none⟩=some (.int .i64 LB):=by rw[g4];exact Zat (Zat (w:=(w.drewN nq).drew) b1 (.inl nvg)) (.inl nvg)
 have fl4:∀ j,w4.frozen? ⟨gl,j,none⟩=false:=fun j=>by rw[g4];exact(World.frozen?_setCell _ _ _ _).trans ((World.frozen?_setCell _ _ _ _).trans (fl j))
 have gi:=Hd g4;rw[<- g4];clear g4 a0 a1 b0 b1 d0 d1 fv fl;go_upto_region 2 with fail;refine Zan (fun W:World=>W.cell? ⟨s.lb,1,none⟩=some (.slice (some ⟨gl,0,none⟩) d.level.length cl)/\True) true 16 [(0,false),(1,false),(2,false),(3,false),(4,false),(5,false),(6,false),(7,false),(8,false),(9,false),(10,false),(11,false),(12,false),(13,false),(14,true),(15,false),(16,true)] (by kernel_rfl) (by kernel_rfl) ⟨e1,trivial⟩ ?_;simp only[planned,Zdd]
 iterate 14
  refine Zaj rfl ?_;apply Exists.intro;refine⟨fun w' hw=>?_,?_⟩
  . obtain⟨h1,_⟩:=hw;go_simp;rfl
  simp only[Zai]
 refine Zkx (w':=w4.drew.setCell ⟨gl,A,none⟩ (.int .i64 (k+1:Nat))) rfl rfl (Zdg (w:=w4.drew) Zoi g0 (fl4 _) rfl rfl) ⟨Zat (w:=w4.drew) e1 (.inl nll),trivial⟩ ?_;simp only[Zai]
 iterate 1
  refine Zaj rfl ?_;apply Exists.intro;refine⟨fun w' hw=>?_,?_⟩
  . obtain⟨h1,_⟩:=hw;go_simp;rfl
  simp only[Zai]
 have g1':∃ u,(w4.drew.setCell ⟨gl,A,none⟩ (.int .i64 (k+1:Nat))).cell? ⟨gl,B,none⟩=some u:=Zbg (w:=w4.drew) g1;obtain⟨u,g1'⟩:=g1';refine Zdn (w':=(w4.drew.setCell ⟨gl,A,none⟩ (.int .i64 (k+1:Nat))).setCell ⟨gl,B,none⟩ (.int .i64 k)) rfl rfl (Zdg Zoi g1' ((World.frozen?_setCell _ _ _ _).trans (fl4 _)) rfl rfl) ?_;simp only[Zai];go_wp2_with fail;go_end0;obtain⟨q1,q2⟩:=gf.out ((w.drewN nq).drew.drew) ((w4.drew.setCell ⟨gl,A,none⟩ (.int .i64 (k+1:Nat))).setCell ⟨gl,B,none⟩ (.int .i64 k)) rfl rfl rfl rfl (by rw[gi.out];rfl);exact⟨rfl,q1,q2⟩
end Go.Proofs.YtkidaindpahefaaGreat
