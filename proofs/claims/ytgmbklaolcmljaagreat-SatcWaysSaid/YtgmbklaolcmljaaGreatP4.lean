/- Several texts in one file: contracts of the program's functions and what follows from them. -/
import Derived.Test.YtgmbklaolcmljaaGreatP3
import Derived.Maps.RangeRun
import Derived.Shelf.SlSortCmp.WholeK
import Derived.Shelf.SlicesG.Cmp
import Derived.Shelf.SlGeneric
import Derived.Ground.SlsfProg
import Derived.Ground.SlgcProg
import Derived.Test.YtgmbklaolcmljaaGreatProg
import Derived.Shelf.SlSortCmp.NoneTotal
import Derived.Sort.CutIn
set_option linter.unusedSimpArgs false
set_option linter.unusedVariables false
set_option linter.unusedSectionVars false
set_option linter.unnecessarySimpa false
set_option maxRecDepth 100000
set_option maxHeartbeats 8000000
namespace Go.Proofs.YtgmbklaolcmljaaGreat
open Go.Proofs.Tryz
open Go.RowKit
theorem Zm0 {P:Program}{o:Oper}{a:Act}{w:World}{K:Act->World->Prop}{Q:Exit->Act->World->Prop}{f:FuncId}{args:Array Value}{R:Value->World->Prop}{R2:List PanicEntry->World->Prop}(he:(execOp a.eval o).run P w=.ok (.enter f args) w)
 (hc:Calls P f args w fun e w'=>(∃ v,e=.returned v/\R v w')\/(∃ ch,e=.panicked ch/\R2 ch w')) (h:∀ v w',R v w'->K (a.put o.dst v) w') (h2:∀ ch w',R2 ch w'->Q (.panic ch) a w'):o.wp P a w K Q:=by
 unfold Oper.wp;simp only[he,Oper.upon];refine hc.mono fun e w' hh=>?_
 rcases hh with ⟨v,h1,h3⟩|⟨ch,h1,h3⟩
 . subst h1;exact h v w' h3
 . subst h1;exact h2 ch w' h3
abbrev C3 (bf bg bh:Nat):Nat->Prop:=fun k=>k=bf\/k=bg\/k=bh
structure B3 (bf bg bh:Nat)(kf kg kh:Int)(W:World):Prop where
 f:W.cell? ⟨bf,0,none⟩=some (.int .i64 kf)
 g:W.cell? ⟨bg,0,none⟩=some (.int .i64 kg)
 h:W.cell? ⟨bh,0,none⟩=some (.int .i64 kh)
theorem B3.keep {bf bg bh:Nat}{kf kg kh:Int}(W W':World)(h:B3 bf bg bh kf kg kh W)(hk:∀ c,C3 bf bg bh c->W'.heap[c]?=W.heap[c]?):B3 bf bg bh kf kg kh W' :=
 ⟨(World.cell?_of_block (w:=W) (a:=⟨bf,0,none⟩) (hk _ (.inl rfl))).trans h.f,(World.cell?_of_block (w:=W) (a:=⟨bg,0,none⟩) (hk _ (.inr (.inl rfl)))).trans h.g,(World.cell?_of_block (w:=W) (a:=⟨bh,0,none⟩) (hk _ (.inr (.inr rfl)))).trans h.h⟩
def Zeo (F G H:BF):BF:=fun ρ=>iteB (F ρ) (G ρ) (H ρ)
def SatX (K:Law)(n:Nat)(Od:List Nat->Prop)(room:Nat)(w0:World)(mb:Nat)(fs:List (Int×BF))(nx:Int)(m:ManD):Prop:=∃ W o V,SatE K n Od room w0 mb fs nx W o m V
def Zre (lim:Option Nat)(k:Nat)(m:ManD):Prop:=∀ M,lim=some M->m.d.pool.many<=M+k
def QF (ws0:List Ev)(lim:Option Nat)(k:Nat)(F:BF)(_:World)(m':ManD)(V':Nat->BF)(r:Nat):Prop:=ef V' r=F/\m'.waits <:+ ws0/\Zre lim k m'
def EF (A:ManD->Prop)(k:Nat)(ws0:List Ev)(er:Int)(m m':ManD):Prop:=er=7/\A m/\m'.d.pool.many=m'.d.pool.room/\m'.d.pool.many+1<=m.d.pool.many+k/\m'.waits <:+ ws0
abbrev Zo1 (ws0:List Ev)(m:ManD):Prop:=m.waits <:+ ws0
abbrev StL (ws0:List Ev)(lim:Option Nat)(m:ManD):Prop:=Zo1 ws0 m/\Zre lim 0 m
def EL (A:ManD->Prop)(k:Nat)(ws0:List Ev)(lim:Option Nat)(er:Int)(m m':ManD):Prop:=lim=none/\EF A k ws0 er m m'
def Zue (ws0:List Ev)(lim:Option Nat)(k room:Nat):Prop:=∀ M,lim=some M->ws0=[]/\M+k<=room
theorem Zs6 {ws0:List Ev}{lim:Option Nat}{k room:Nat}{m m':ManD}(h:Zue ws0 lim k room)(h1:Zre lim 0 m)(h2:m'.d.pool.room+1<=m.d.pool.many+k)(h3:m'.d.pool.room=room):lim=none:=by
 cases lim with
 | none=>rfl
 | some M =>
   have:=(h M rfl).2;have:=h1 M rfl;omega
theorem Yb5 {ws0 ws:List Ev}{ev:Ev}{lim:Option Nat}{k k' room:Nat}{m:ManD}(h:Zue ws0 lim k room)(h1:ev::ws <:+ ws0):Zre lim k' m:=fun M e=>by
 have:=(h M e).1;subst this;simp at h1
theorem Yae {K:Law}(hK:Zdu K){n:Nat}{Od:List Nat->Prop}{room:Nat}{w0:World}{mb:Nat}{fs:List (Int×BF)}{nx:Int}(ws0:List Ev)(lim:Option Nat)(hlim:Zue ws0 lim (2^n-1) room)(hhap:∀ ev∈ws0,HapG K n Od room w0 mb fs nx ev)(bf bg bh:Nat){kf kg kh:Int}{F G H:BF}(hf:(kf,F)∈fs)(hg:(kg,G)∈fs)(hh:(kh,H)∈fs) :
 OpG K n Od room w0 mb fs nx (C3 bf bg bh) (B3 bf bg bh kf kg kh) (StL ws0 lim) 118 #[.pointer (some ⟨bf,0,none⟩),.pointer (some ⟨bg,0,none⟩),.pointer (some ⟨bh,0,none⟩)] (QF ws0 lim (2^n-1) (Zeo F G H)) (EL (SatX K n Od room w0 mb fs nx) (2^n-1) ws0 lim):=by
 intro o W m V xb g0 hB hC g1 g7 hnx;obtain⟨f,hf,ef1⟩:=g0.find hf;obtain⟨g,hg,ef2⟩:=g0.find hg;obtain⟨h,hh,ef3⟩:=g0.find hh;have hk:=g0.ok;have g8:=g0.lt;have gc:=hk.store;obtain⟨s,hm⟩:=g0.is;have g2:Below W.heap.size W W.drew:=Zag W 1;have g6:=hm.below g8 g2;have ga:=g8.mono g2.size;have g5:Zfn o W.drew xb mb:=⟨(g2.cell (p:=⟨xb,0,none⟩) (Zab g7.cell)).trans g7.cell,g7.own⟩;have df:=(g2.cell (p:=⟨bf,0,none⟩) (Zab hB.f)).trans hB.f;have dg:=(g2.cell (p:=⟨bg,0,none⟩) (Zab hB.g)).trans hB.g;have dh:=(g2.cell (p:=⟨bh,0,none⟩) (Zab hB.h)).trans hB.h;have of:=(hC bf (.inl rfl)).2;have og:=(hC bg (.inr (.inl rfl))).2;have oh:=(hC bh (.inr (.inr rfl))).2;have gi:=Hd (Zel ⟨s,g6⟩ g5 hk.handles.nodup hf);have gh:=Hd (Zel ⟨s,g6⟩ g5 hk.handles.nodup hg);have gg:=Hd (Zel ⟨s,g6⟩ g5 hk.handles.nodup hh);have gd:=Hd (Zup hK n o W.drew xb mb m V f g h ⟨s,g6⟩ ga g5 gc (hk.handles.ok _ hf) (hk.handles.ok _ hg) (hk.handles.ok _ hh) (by rw[g0.vars];omega));obtain⟨P,hP⟩:∃ P:Ending->World->Prop,P=fun e w'=>∃ (o':Own) (m':ManD) (V':Nat->BF),Zj0 (C3 bf bg bh) K o W mb m V o' w' m' V'/\B3 bf bg bh kf kg kh w' /\
  ((∃ r:Nat,e=.returned (.int .i64 r)/\okE (Zaa m'.d) r/\QF ws0 lim (2^n-1) (Zeo F G H) w' m' V' r) \/
   (∃ er:Int,e=Zde er false ev0/\er≠0/\m'.waits=m.waits/\StL ws0 lim m'/\EL (SatX K n Od room w0 mb fs nx) (2^n-1) ws0 lim er m m') \/
   (∃ ev,e=Zde 0 true ev/\m.waits=ev::m'.waits/\StE K n Od room w0 mb fs nx (StL ws0 lim) m'/\HapG K n Od room w0 mb fs nx ev)):=⟨_,rfl⟩
 have ge:Hid (∀ e w',Zv5 K n o W.drew mb m V f g h e w'->(∃ v,e=.returned v/\(w'.cell? ⟨bf,0,none⟩=some (.int .i64 kf)/\w'.cell? ⟨bg,0,none⟩=some (.int .i64 kg)/\w'.cell? ⟨bh,0,none⟩=some (.int .i64 kh))/\P (.returned v) w')\/(∃ ch,e=.panicked ch/\P (.panicked ch) w')):=by
  refine Hd ?_;subst hP;rintro e w' ⟨o',m',V',st,g9⟩;have g3:B3 bf bg bh kf kg kh w':=⟨st.chg.cell df of,st.chg.cell dg og,st.chg.cell dh oh⟩;have stx:Zj0 (C3 bf bg bh) K o W mb m V o' w' m' V':=Step.toX (K:=K) ⟨st.is,st.lt,(Chg.of_below g2 _ o).trans st.chg,st.ok,st.ext,st.hs,st.next⟩ _;have hp2:0<2^n:=Nat.pow_pos (by omega);rcases g9 with ⟨r,rfl,h1,h2,h3⟩|⟨rfl,h2,h3,h4⟩|⟨ev,rfl,h1⟩
  . refine .inl ⟨_,rfl,⟨g3.f,g3.g,g3.h⟩,o',m',V',stx,g3,.inl ⟨r,rfl,h1.okR,?_,by rw[h2];exact g1.1,fun M e=>by have:=g1.2 M e;omega⟩⟩;have e1:=(st.ext.ef (hk.handles.ok _ hf)).trans ef1;have e2:=(st.ext.ef (hk.handles.ok _ hg)).trans ef2;have e3:=(st.ext.ef (hk.handles.ok _ hh)).trans ef3;dsimp only at e1 e2 e3;funext ρ;rw[h1.val ρ,e1,e2,e3];rfl
  . have gb:lim=none:=Zs6 hlim g1.2 (by rw[<- h3];omega) (by rw[st.ext.room];exact g0.room);exact .inr ⟨_,rfl,o',m',V',stx,g3,.inr (.inl ⟨7,rfl,by omega,h2,⟨by unfold Zo1;rw[h2];exact g1.1,by subst gb;exact fun M e=>by cases e⟩,gb,rfl,⟨_,_,_,g0⟩,h3,by omega,by rw[h2];exact g1.1⟩)⟩
  ·refine .inr ⟨_,rfl,o',m',V',stx,g3,.inr (.inr ⟨ev,rfl,h1,?_,?_⟩)⟩
   all_goals
    have g4:m.waits <:+ ws0:=g1.1;rw[h1] at g4
    first|exact fun _ _ _ _ _ e _ _=>⟨by unfold Zo1;rw[e];exact(List.suffix_cons ev m'.waits).trans g4,Yb5 hlim g4⟩|exact hhap ev (g4.subset (List.mem_cons_self ..))
 rw[<- hP];clear hm gc hk g7 hB hC g1 hnx hhap hlim hK g8 hf hg hh of og oh g6 ga g5 g2 g0 hP ef1 ef2 ef3
 go_enter func118,ntmps118
 go_upto_region 1 with fail;refine Zgy (fun W:World=>W.cell? ⟨bf,0,none⟩=some (.int .i64 kf)/\W.cell? ⟨bg,0,none⟩=some (.int .i64 kg)/\W.cell? ⟨bh,0,none⟩=some (.int .i64 kh)) (fun ch w'=>P (.panicked ch) w') 12 (fun c a w hd h=>⟨hd,h⟩) (by kernel_rfl) ⟨df,dg,dh⟩ ?_;refine Zb5 0 rfl rfl (by kernel_rfl) ?_;apply Exists.intro;refine⟨fun w' hw=>?_,?_⟩
 . obtain⟨q1,q2,q3⟩:=hw;go_simp;rfl
 simp only[Zai];refine Zb5 1 rfl rfl (by kernel_rfl) ?_;apply Exists.intro;refine⟨fun w' hw=>?_,?_⟩
 . obtain⟨q1,q2,q3⟩:=hw;go_simp;rfl
 simp only[Zai];refine Zb5 2 rfl rfl (by kernel_rfl) ?_;apply Exists.intro;refine⟨fun w' hw=>?_,?_⟩
 . obtain⟨q1,q2,q3⟩:=hw;go_simp;rfl
 simp only[Zai];refine Zb5 4 rfl rfl (by kernel_rfl) ?_;apply Exists.intro;refine⟨fun w' hw=>?_,?_⟩
 . obtain⟨q1,q2,q3⟩:=hw;go_simp;rfl
 simp only[Zai];refine Zb5 5 rfl rfl (by kernel_rfl) ?_;apply Exists.intro;refine⟨fun w' hw=>?_,?_⟩
 . obtain⟨q1,q2,q3⟩:=hw;go_simp;rfl
 simp only[Zai];refine Zb5 7 rfl rfl (by kernel_rfl) ?_;apply Exists.intro;refine⟨fun w' hw=>?_,?_⟩
 . obtain⟨q1,q2,q3⟩:=hw;go_simp;rfl
 simp only[Zai];refine Zb5 8 rfl rfl (by kernel_rfl) ?_;apply Exists.intro;refine⟨fun w' hw=>?_,?_⟩
 . obtain⟨q1,q2,q3⟩:=hw;go_simp;rfl
 simp only[Zai];refine Zc6 [3] (by kernel_rfl) (fun i hi hS o ho=>?_);simp only[Zl3] at hi;subst hi;simp only[Zkp] at ho;subst ho;refine⟨rfl,?_⟩;refine Zdm (v:=.int .i64 (f:Nat)) (R:=fun w'=>W.drew=w') (by go_simp) gi.out ?_;rintro w' rfl;refine⟨⟨df,dg,dh⟩,?_⟩;simp only[Zai];refine Zc6 [6] (by kernel_rfl) (fun i hi hS o ho=>?_);simp only[Zl3] at hi;subst hi;simp only[Zkp] at ho;subst ho;refine⟨rfl,?_⟩;refine Zdm (v:=.int .i64 (g:Nat)) (R:=fun w'=>W.drew=w') (by go_simp) gh.out ?_;rintro w' rfl;refine⟨⟨df,dg,dh⟩,?_⟩;simp only[Zai];refine Zc6 [9] (by kernel_rfl) (fun i hi hS o ho=>?_);simp only[Zl3] at hi;subst hi;simp only[Zkp] at ho;subst ho;refine⟨rfl,?_⟩;refine Zdm (v:=.int .i64 (h:Nat)) (R:=fun w'=>W.drew=w') (by go_simp) gg.out ?_;rintro w' rfl;refine⟨⟨df,dg,dh⟩,?_⟩;simp only[Zai];refine Zc6 [10] (by kernel_rfl) (fun i hi hS o ho=>?_);simp only[Zl3] at hi;subst hi;simp only[Zkp] at ho;subst ho;refine⟨rfl,?_⟩;refine Zm0 (R:=fun v w'=>(w'.cell? ⟨bf,0,none⟩=some (.int .i64 kf)/\w'.cell? ⟨bg,0,none⟩=some (.int .i64 kg)/\w'.cell? ⟨bh,0,none⟩=some (.int .i64 kh))/\P (.returned v) w') (R2:=fun ch w'=>P (.panicked ch) w') (by go_simp) (gd.out.mono ge.out) ?_ ?_
 ·rintro v w' ⟨hS,g1⟩;refine⟨hS,?_⟩;have gf:=Hd g1;clear g1;simp only[Zai];refine Zb5 11 rfl rfl (by kernel_rfl) ?_;apply Exists.intro;refine⟨fun w' hw=>?_,?_⟩
  . go_simp;rfl
  simp only[Zai];refine Zp4 (by kernel_rfl) ?_;clear hS df dg dh;go_wp2_with fail;exact gf.out
 . intro ch w' g1;exact⟨rfl,g1⟩
abbrev C1 (b:Nat):Nat->Prop:=fun k=>k=b
structure B1 (b:Nat)(v:Int)(W:World):Prop where
 c:W.cell? ⟨b,0,none⟩=some (.int .i64 v)
theorem B1.keep {b:Nat}{v:Int}(W W':World)(h:B1 b v W)(hk:∀ c,C1 b c->W'.heap[c]?=W.heap[c]?):B1 b v W':=⟨(World.cell?_of_block (w:=W) (a:=⟨b,0,none⟩) (hk _ rfl)).trans h.c⟩
theorem Ybq {K:Law}(hK:Zdu K){n:Nat}{Od:List Nat->Prop}{room:Nat}{w0:World}{mb:Nat}{fs:List (Int×BF)}{nx:Int}(ws0:List Ev)(lim:Option Nat)(hlim:Zue ws0 lim 1 room)(hhap:∀ ev∈ws0,HapG K n Od room w0 mb fs nx ev)(v vb:Nat)(hv:v<n) :
 OpG K n Od room w0 mb fs nx (C1 vb) (B1 vb v) (StL ws0 lim) 116 #[.pointer (some ⟨vb,0,none⟩)] (QF ws0 lim 1 (varF v)) (EL (SatX K n Od room w0 mb fs nx) 1 ws0 lim):=by
 intro o W m V xb g1 hB hC g0 hx hnx;have hk:=g1.ok;have g9:=g1.lt;have g2:=hk.store;have o0:okE (Zaa m.d) 0:=.inl rfl;have o1:okE (Zaa m.d) 1:=.inl rfl;have g4:lvE m.d.vars.length (levN m.d) (Zaa m.d) 0=m.d.vars.length:=Zk7 g2 rfl;have gc:lvE m.d.vars.length (levN m.d) (Zaa m.d) 1=m.d.vars.length:=Zk7 g2 rfl;have g8:v<m.d.vars.length:=by rw[g1.vars];exact hv
 have gb:=g2.dag.lt v g8;have ge:=Hd (Zpg hK g1.is g9 hx g2 v 1 0 o1 o0);have cvb:=hB.c;have ob:=(hC vb rfl).2;obtain⟨P,hP⟩:∃ P:Ending->World->Prop,P=fun e w'=>∃ (o':Own) (m':ManD) (V':Nat->BF),Zj0 (C1 vb) K o W mb m V o' w' m' V'/\B1 vb v w' /\
  ((∃ r:Nat,e=.returned (.int .i64 r)/\okE (Zaa m'.d) r/\QF ws0 lim 1 (varF v) w' m' V' r) \/
   (∃ er:Int,e=Zde er false ev0/\er≠0/\m'.waits=m.waits/\StL ws0 lim m'/\EL (SatX K n Od room w0 mb fs nx) 1 ws0 lim er m m') \/
   (∃ ev,e=Zde 0 true ev/\m.waits=ev::m'.waits/\StE K n Od room w0 mb fs nx (StL ws0 lim) m'/\HapG K n Od room w0 mb fs nx ev)):=⟨_,rfl⟩
 have ga:Hid (∀ e w',Zh5 K o W mb m V v 1 0 e w'->(∃ r:Nat,e=.returned (.int .i64 r)/\P (.returned (.int .i64 r)) w')\/(∃ er evt ev,e=Zde er evt ev/\P (Zde er evt ev) w')):=by
  refine Hd ?_;subst hP;rintro e w' ⟨o',m',V',st,g7⟩;have g5:B1 vb v w':=⟨st.chg.cell cvb ob⟩;have stx:Zj0 (C1 vb) K o W mb m V o' w' m' V':=st.toX _;rcases g7 with ⟨ev,h1,_,_,_,_,rfl⟩|⟨h1,_,_,(⟨er,gd,hd,_,rfl⟩|⟨_,_,r,rfl,h2,h3,_,h5⟩)⟩
  ·refine .inr ⟨0,true,ev,rfl,o',m',V',stx,g5,.inr (.inr ⟨ev,rfl,h1,?_,?_⟩)⟩
   all_goals
    have g3:m.waits <:+ ws0:=g0.1;rw[h1] at g3
    first|exact fun _ _ _ _ _ e _ _=>⟨by unfold Zo1;rw[e];exact(List.suffix_cons ev m'.waits).trans g3,Yb5 hlim g3⟩|exact hhap ev (g3.subset (List.mem_cons_self ..))
  ·refine .inr ⟨er,false,ev0,rfl,o',m',V',stx,g5,.inr (.inl ?_)⟩;rcases gd with ⟨_,h⟩|⟨_,_,_,h⟩|⟨rfl,h⟩
   . exact(h ⟨by omega,by omega⟩).elim
   . simp only[Int.toNat_natCast] at h;omega
   . have g4:lim=none:=Zs6 (m':=m') hlim g0.2 (by rw[hd];omega) (by rw[st.ext.room];exact g1.room);exact⟨7,rfl,by omega,h1,⟨by unfold Zo1;rw[h1];exact g0.1,by subst g4;exact fun M e=>by cases e⟩,g4,rfl,⟨_,_,_,g1⟩,by rw[hd];exact h,by rw[hd];omega,by rw[h1];exact g0.1⟩
  . refine .inl ⟨r,rfl,o',m',V',stx,g5,.inl ⟨r,rfl,h2,?_,by rw[h1];exact g0.1,fun M e=>by have:=g0.2 M e;omega⟩⟩;rw[h3];funext ρ;have a0:=Zi0 g2.dag.one ρ;have a1:=Zmm g2.dag.one ρ;simp only[iteF,varF,Int.toNat_natCast,a0,a1];cases ρ v<;>rfl
 rw[<- hP];clear g2 o0 o1 g4 gc gb g8 hk hx hC hK hv g9 hB hnx g0 hP ob g1 hlim
 go_enter func116,ntmps116
 go_wp2_with fail;refine ge.out.mono ?_;intro e w' hp;rcases ga.out e w' hp with ⟨r,rfl,g0⟩|⟨er,evt,ev,rfl,g0⟩
 . have g6:=Hd g0;clear hp g0;go_wp2_with fail;exact g6.out
 . have g6:=Hd g0;clear hp g0;unfold Zde;go_wp2_with fail;exact⟨rfl,g6.out⟩
def Zji (K:Law)(n:Nat)(Od:List Nat->Prop)(room:Nat)(w0:World)(mb:Nat)(fs:List (Int×BF))(nx:Int)(ws0:List Ev)(lim:Option Nat)(k:Nat)(F:BF)(o:Own)(w:World)(x:Ending)(w':World):Prop :=
 ∃ o' m' V',ChgX NoB o o' w w'/\m'.waits <:+ ws0/\((x=.returned (.tuple #[.int .i64 nx,.int .i64 0])/\Zre lim k m'/\SatE K n Od room w0 mb (fs++[(nx,F)]) (nx+1) w' o' m' V') \/
  (x=.returned (.tuple #[.int .i64 0,.int .i64 7])/\lim=none/\SatE K n Od room w0 mb fs nx w' o' m' V'/\∃ m0,SatX K n Od room w0 mb fs nx m0/\m0.d.dead=0/\room+1<=m0.d.pool.many+k))
theorem StL.coll {ws0:List Ev}{lim:Option Nat}(m:ManD)(d:Zac)(h:StL ws0 lim m)(r:Za4 m.d d):StL ws0 lim { m with d:=d }:=⟨h.1,fun M e=>by have:=h.2 M e;have:=r.many;show d.pool.many<=M+0;omega⟩
theorem Zqe {K:Law}{n:Nat}{Od:List Nat->Prop}{room:Nat}{w0:World}{mb:Nat}{fs:List (Int×BF)}{nx:Int}{ws0:List Ev}{lim:Option Nat}{k:Nat}{F:BF}{o:Own}{w w1 w':World}{C:Nat->Prop}{B:World->Prop}{x:Ending}(hb:Below w.heap.size w w1)(hC:∀ c,C c->w.heap.size<=c)
 (h:Zv3 K n Od room w0 mb fs nx C B (QF ws0 lim k F) (EL (SatX K n Od room w0 mb fs nx) k ws0 lim) o w1 x w'):Zji K n Od room w0 mb fs nx ws0 lim k F o w x w':=by
 obtain⟨o',m',V',_,hc,g0⟩:=h;have g1:ChgX NoB o o' w w':=(ChgX.of_below hb o NoB).trans hc (fun k hk e=>by have:=hC k e;omega);rcases g0 with ⟨r,m1,rfl,hs,⟨q1,q2,q4⟩,_,_,_,_,q5,q3,_⟩|⟨er,m0,_,rfl,hs,⟨g3,rfl,g2,h1,h2,h3⟩,h7⟩
 . exact⟨o',m',V',g1,by rw[q3];exact q2,.inl ⟨rfl,fun M e=>by rw[q5];exact q4 M e,by rw[<- q1];exact hs⟩⟩
 . refine⟨o',m',V',g1,h3,.inr ⟨rfl,g3,hs,m0,g2,h7 rfl,?_⟩⟩;have:=hs.room;omega
theorem Zmv {K:Law}(hK:Zdu K){n:Nat}{Od:List Nat->Prop}{room:Nat}{w0:World}{mb:Nat}{fs:List (Int×BF)}{nx:Int}{w:World}{o:Own}{m:ManD}{V:Nat->BF}(h:SatE K n Od room w0 mb fs nx w o m V)(ws0:List Ev)(hws:m.waits <:+ ws0)(lim:Option Nat)(hlim:Zue ws0 lim (2^n-1) room)(hl0:Zre lim 0 m)(hhap:∀ ev∈ws0,HapG K n Od room w0 mb fs nx ev)(hn:nx<1099511627776)
 {kf kg kh:Int} {F G H:BF} (hf:(kf,F)∈fs) (hg:(kg,G)∈fs) (hh:(kh,H)∈fs) :
 Calls prog 59 #[.pointer (some ⟨mb,0,none⟩),.int .i64 kf,.int .i64 kg,.int .i64 kh] w (Zji K n Od room w0 mb fs nx ws0 lim (2^n-1) (Zeo F G H) o w):=by
 have g1:∀ (fn:Fn) (first cap:Array Value) (w:World),(Instr.makeFunc fn first cap).run prog w=.ok (.func fn first cap) w:=fun _ _ _ _=>rfl
 obtain⟨hb,cf,cg,ch⟩:=Ycu kf kg kh w;have hw0:=h.chg.size;have hz:(box3 kf kg kh w).heap.size=w.heap.size+3:=by simp[box3]
 have g0:Hid (Calls prog 115 #[.pointer (some ⟨mb,0,none⟩),.func (.func 118) #[] #[.pointer (some ⟨w.heap.size,0,none⟩),.pointer (some ⟨w.heap.size+1,0,none⟩),.pointer (some ⟨w.heap.size+1+1,0,none⟩)]] (box3 kf kg kh w) (Zji K n Od room w0 mb fs nx ws0 lim (2^n-1) (Zeo F G H) o w)):=by
  refine Hd ?_;refine(Yb1 hK B3.keep (fun _ _ _ _ _ h _=>h) StL.coll ?_ Zrs (Yae hK ws0 lim hlim hhap w.heap.size (w.heap.size+1) (w.heap.size+1+1) hf hg hh) (h.below hb) ⟨cf,cg,ch⟩ ?_ ⟨hws,hl0⟩ hn).mono fun x w' hp=>Zqe hb ?_ hp
  . rintro c (rfl|rfl|rfl)<;>omega
  . rintro c (rfl|rfl|rfl)<;>exact⟨by omega,h.lt.none (by omega)⟩
  . rintro c (rfl|rfl|rfl)<;>omega
 have HW:Hid (_=box3 kf kg kh w):=Hd (show ((w.alloc (.cells #[.int .i64 kf] 3)).alloc (.cells #[.int .i64 kg] 3)).alloc (.cells #[.int .i64 kh] 3)=box3 kf kg kh w from rfl);clear h hK hws hhap hn hf hg hh hb cf cg ch hw0 hz hlim hl0;obtain⟨P,hP⟩:∃ P,P=Zji K n Od room w0 mb fs nx ws0 lim (2^n-1) (Zeo F G H) o w:=⟨_,rfl⟩;rw[<- hP] at g0 ⊢;have HT:Hid (∀ x w',P x w'->∃ a b,x=.returned (.tuple #[.int .i64 a,.int .i64 b])):=by
  refine Hd ?_;subst hP;rintro x w' ⟨_,_,_,_,_,(⟨rfl,_⟩|⟨rfl,_⟩)⟩
  . exact⟨_,_,rfl⟩
  . exact⟨_,_,rfl⟩
 clear hP
 go_enter func59,ntmps59
 go_wp2_with fail;rw[HW.out];refine g0.out.mono ?_;intro x w' hd;obtain⟨a,b,rfl⟩:=HT.out x w' hd;have HD:=Hd hd;clear hd;go_wp2_with fail;exact HD.out
theorem Zmw {K:Law}(hK:Zdu K){n:Nat}{Od:List Nat->Prop}{room:Nat}{w0:World}{mb:Nat}{fs:List (Int×BF)}{nx:Int}{w:World}{o:Own}{m:ManD}{V:Nat->BF}(h:SatE K n Od room w0 mb fs nx w o m V)(ws0:List Ev)(hws:m.waits <:+ ws0)(lim:Option Nat)(hlim:Zue ws0 lim 1 room)(hl0:Zre lim 0 m)(hhap:∀ ev∈ws0,HapG K n Od room w0 mb fs nx ev)(hn:nx<1099511627776)
 (v:Nat) (hv:v<n) :
 Calls prog 58 #[.pointer (some ⟨mb,0,none⟩),.int .i64 v] w (Zji K n Od room w0 mb fs nx ws0 lim 1 (varF v) o w):=by
 have gb:∀ (fn:Fn) (first cap:Array Value) (w:World),(Instr.makeFunc fn first cap).run prog w=.ok (.func fn first cap) w:=fun _ _ _ _=>rfl
 obtain⟨w1,g0⟩:∃ w1,w1=w.alloc (.cells #[.int .i64 (v:Nat)] 3):=⟨_,rfl⟩;have g1:Below w.heap.size w w1:=by rw[g0];exact Zaf w _
 have g5:w1.heap[w.heap.size]?=some (.cells #[.int .i64 (v:Nat)] 3 (0,0)):=by rw[g0];exact heap_alloc_new w _
 have cvb:w1.cell? ⟨w.heap.size,0,none⟩=some (.int .i64 (v:Nat)):=cell1 g5;have g8:w1.heap.size=w.heap.size+1:=by rw[g0];simp
 have hw0:=h.chg.size;obtain⟨s,g6⟩:=h.is;have g3:=g6.below h.lt g1;obtain⟨c0,c1,c2,c3,c4,c5,f0⟩:=cells6 g3.blk;obtain⟨ss,g2⟩:=g3.store;have g7:Zf7 m.d v=(levN m.d v:Nat):=Zp5 (by rw[g2.len,h.vars];exact hv);have g9:Hid (∀ n,Calls prog 114 #[.pointer (some ⟨s.sb,0,none⟩),.int .i64 (v:Nat)] (w1.drewN n) fun x w'=>x=.returned (.int .i64 (levN m.d v:Nat))/\w1.drewN n=w'):=by
  refine Hd fun n=>?_
  have:=Zh2 (g2.below (h.lt.mono g1.size) (Zag w1 n)) v (by rw[g2.len];have:=h.ok.store.small;omega);rw[g7] at this;exact this
 obtain⟨P,hP⟩:∃ P,P=Zji K n Od room w0 mb fs nx ws0 lim 1 (varF v) o w:=⟨_,rfl⟩;have ga:Hid (∀ q,Calls prog 115 #[.pointer (some ⟨mb,0,none⟩),.func (.func 116) #[] #[.pointer (some ⟨w.heap.size,0,none⟩)]] (w1.drewN q) P):=by
  refine Hd fun q=>?_
  rw[hP];have g4:Below w.heap.size w (w1.drewN q):=g1.trans ((Zag w1 q).mono g1.size);refine(Yb1 hK B1.keep (fun _ _ _ _ _ h _=>h) StL.coll ?_ Zru (Ybq hK ws0 lim hlim hhap v w.heap.size hv) (h.below g4) ⟨cvb⟩ ?_ ⟨hws,hl0⟩ hn).mono fun x w' hp=>Zqe g4 ?_ hp
  . rintro c rfl;omega
  . rintro c rfl;exact⟨by have:=g4.size;show w.heap.size<w1.heap.size;omega,h.lt.none (by omega)⟩
  . rintro c rfl;omega
 have HT:Hid (∀ x w',P x w'->∃ a b,x=.returned (.tuple #[.int .i64 a,.int .i64 b])):=by
  refine Hd ?_;rw[hP];rintro x w' ⟨_,_,_,_,_,(⟨rfl,_⟩|⟨rfl,_⟩)⟩
  . exact⟨_,_,rfl⟩
  . exact⟨_,_,rfl⟩
 rw[<- hP];have HW:Hid (w.alloc (.cells #[.int .i64 (v:Nat)] 3)=w1):=Hd g0.symm;clear g3 g2 g7 g6 g1 g5 g0 hK hn hv hws hhap h hw0 g8 hP hlim hl0
 go_enter func58,ntmps58
 go_upto_region 3 with fail;rw[HW.out]
 go_quiet (with_reducible exact Zbj (g9.out _))
 go_wp2_with fail;refine(ga.out _).mono ?_;intro x w' hd;obtain⟨a,b,rfl⟩:=HT.out x w' hd;have HD:=Hd hd;clear hd;go_wp2_with fail;exact HD.out
end Go.Proofs.YtgmbklaolcmljaaGreat

namespace Go.Proofs.YtgmbklaolcmljaaGreat
open Go.Proofs.Tryz
open Go.RowKit Go.Shelf
section
variable {F:Fence}{n:Nat}{P:Program}{α:Type}
def Ybs (F:Fence)(n d:Nat)(P:Program)(g:Nat)(lb:Array Value)(encs:α->Array Value)(n₀:Nat)(Bx:Nat->Prop)(Good:List α->Prop)(w:World):Prop :=
 ∀ (l:Nat) (J:List α->(Nat->Prop)->World->Prop) (M:Nat->Prop) (W:World),Zsq n₀ J->Minds n₀ J->Wr (fun k=>n₀<=k/\¬ Bx k) w W->(∀ k,Bx k->¬ M k) ->
  (∀ pre x M W1,J pre M W1->(∃ suf,Good (pre++x::suf))->YieldAt F (n-1-d) P l (encs x) W1 fun e W' =>
   e=.returned (.bool true)/\∃ M',J (pre++[x]) M' W'/\Wr M W1 W'/\∀ k,M' k->M k\/W1.heap.size<=k) ->
  J [] M W ->
  CallsIn F n P g (#[.func (.yield l) #[] #[]]++lb) W fun e W'=>(∃ v,e=.returned v)/\∃ xs M',Good xs/\J xs M' W'/\Wr (fun k=>n₀<=k) W W'/\∀ k,M' k->M k\/W.heap.size<=k
theorem Zzp {g:Operand}{ps:Array Tmp}{assign body:Code}{Q:Exit->Act->World->Prop}{a:Act}{w:World}(hro:F.round=none)(h1:1<=n){gf:Nat}{lb:Array Value}(hg:a.eval g=.func (.func gf) #[] lb)
 (hFg:F.fn gf) (eg:∀ args w,(callFunc gf args).run P w=.ok (.enter gf args) w) {encs:α->Array Value} {n₀:Nat} {Bx:Nat->Prop} {Good:List α->Prop} {d:Nat} (hseq:Ybs F (n-1) d P gf lb encs n₀ Bx Good w) (hn0:n₀<=w.heap.size)
 (hBx:∀ k,Bx k->k<w.heap.size) (hps:∀ x,(encs x).size=ps.size) (I:List α->(Nat->Prop)->World->Prop) (hOw:Zsq n₀ I) (hMi:Minds n₀ I) (M0:Nat->Prop) (hM0:∀ k,Bx k->¬ M0 k) (h0:I [] M0 w)
 (Ax:α->Act->World->World->Prop) (hAx:∀ x a' W W1 W2 l,l<W.heap.size->Ax x a' W W1->Wr (· = l) W1 W2->Ax x a' W W2)
 (hassign:∀ (l:Nat) (pre:List α) (x:α) (M:Nat->Prop) (W:World) (K:Act->World->Prop),I pre M W->(∀ a' W',Wr (fun _=>False) W W'->Ax x a' W W'->K a' W') ->
  assign.wpIn (F.inRound l) (n-1-1-d) P (Exit.then K (fun _ _ _=>False)) { tmps:=(ps.zip (encs x)).foldl (fun t (p,v)=>t.setIfInBounds p v) a.tmps,defers:=[] } W)
 (hbody:∀ (l:Nat) (pre:List α) (x:α) (a':Act) (M:Nat->Prop) (W0 W:World),I pre M W->Ax x a' W0 W->W0.heap.size<=W.heap.size->w.heap.size<=W0.heap.size->(∃ suf,Good (pre++x::suf))->body.wpIn (F.inRound l) (n-1-1-d) P
  (fun e _ W'=>match e with|.normal=>∃ M',I (pre++[x]) M' W'/\Wr (fun k=>M k\/W0.heap.size<=k) W W'/\(∀ k,M' k->M k\/W0.heap.size<=k)|_=>False) a' W)
 (hdone:∀ (xs:List α) (D:Nat) (M:Nat->Prop) (W:World),Good xs->w.heap.size<=D->¬ M D->I xs M W->(∀ k,M k->M0 k\/w.heap.size<=k)->Wr (fun k=>n₀<=k) w W->W.heap[D]?=some (.deferred (some []))->Q .normal { a with defers:={ target:=.collected D,args:=#[] }::a.defers } W) :
 (Code.rangeFunc g ps assign body).wpIn F n P Q a w:=by
 refine wpIn_rangeFunc ?_;intro fn gn;rw[hro]
 let rec0:LoopState->Loop:=fun st=>{ state:=st,pending:=none,fn,tmps:=a.tmps,params:=ps,assign,body,defers:=w.heap.size }
 obtain⟨W1,g1⟩:∃ W1,W1=(w.alloc (.deferred (some []))).alloc (.loop (rec0 .ready)):=⟨_,rfl⟩;have gs:W1.heap[w.heap.size+1]?=some (.loop (rec0 .ready)):=by
  rw[g1];have:=World.alloc_heap_new (w.alloc (.deferred (some []))) (.loop (rec0 .ready))
  rwa [World.size_alloc] at this
 have gu:W1.heap[w.heap.size]?=some (.deferred (some [])):=by
  rw[g1];exact(Below.heap_alloc _ _ _ (by simp)).trans (World.alloc_heap_new w _)
 have g5:∀ N:Nat->Prop,Wr N w W1:=fun N=>by rw[g1];exact((Wr.refl N w).alloc _).alloc _
 have g2:=hOw [] M0 w h0;have gt:I [] M0 W1:=hMi _ _ _ _ h0 (g5 _)
 refine⟨w.heap.size+1,[{ target:=.collected w.heap.size,args:=#[] }],W1,{ target:=.fn (.func gf) lb,args:=#[.func (.yield (w.heap.size+1)) #[] #[]] },W1,gf,
  #[.func (.yield (w.heap.size+1)) #[] #[]]++lb,W1,?_,?_,?_,?_,fun _=>h1,?_⟩
 . rw[g1];exact run_enterLoop_outer _ _ _ _ _
 . simp only[resolve,hg];simp[go_sem]
 . intro f' gc;simp[Target.leads] at gc;subst gc;exact hFg
 . simp[invoke,go_sem,eg]
 refine(hseq (w.heap.size+1)
  (fun pre N W=>∃ M,I pre M W/\(∀ k,N k↔(M k\/k=w.heap.size+1\/k=w.heap.size))/\¬ M (w.heap.size+1)/\¬ M w.heap.size/\(∀ k,M k->M0 k\/w.heap.size<=k) /\
   W.heap[w.heap.size+1]?=some (.loop (rec0 .ready))/\W.heap[w.heap.size]?=some (.deferred (some [])))
  (fun k=>M0 k\/k=w.heap.size+1\/k=w.heap.size) W1 ?_ ?_ (g5 _) ?_ ?_ ?_).mono ?_
 ·rintro pre N W ⟨M,hi,hN,_,_,_,hl,hd⟩ k hk;rcases(hN k).1 hk with hk|hk|hk
  . exact hOw _ _ _ hi k hk
  . subst hk;exact⟨by omega,(Array.getElem?_eq_some_iff.1 hl).1⟩
  . subst hk;exact⟨hn0,(Array.getElem?_eq_some_iff.1 hd).1⟩
 ·rintro pre N W W' ⟨M,hi,hN,h2,h3,h4,hl,hd⟩ hw;refine⟨M,hMi _ _ _ _ hi ?_,hN,h2,h3,h4,?_,?_⟩
  . exact⟨hw.os,hw.tape,hw.output,hw.size,fun k hk hn=>hw.keep k hk (fun⟨a,b⟩=>hn ⟨a,fun e=>b ((hN k).2 (.inl e))⟩)⟩
  . exact(hw.keep _ (Array.getElem?_eq_some_iff.1 hl).1 (fun⟨_,b⟩=>b ((hN _).2 (.inr (.inl rfl))))).trans hl
  . exact(hw.keep _ (Array.getElem?_eq_some_iff.1 hd).1 (fun⟨_,b⟩=>b ((hN _).2 (.inr (.inr rfl))))).trans hd
 ·intro k hk hm;have:=hBx k hk;rcases hm with hm|hm|hm
  . exact hM0 k hk hm
  . omega
  . omega
 ·rintro pre x N W ⟨M,hi,hN,h2,h3,h4,hl,hd⟩ gd;have ga:w.heap.size+1<W.heap.size:=(Array.getElem?_eq_some_iff.1 hl).1;have hy:=run_yield (P:=P) (args:=encs x) hl (hps x);refine⟨fn,_,assign,body,hy,roundIn_of_wpIn gn (hassign _ pre x M W _ hi ?_)⟩;intro a' Wa g0 gr;have gj:=(g0.keep _ ga (fun h=>h)).trans hl;have gp:=(g0.keep _ (by omega) (fun h=>h)).trans hd;have g6:w.heap.size+1<Wa.heap.size:=by have:=g0.size;omega
  refine⟨_,run_beginRound gj rfl,?_⟩;have gl:I pre M Wa:=hMi _ _ _ _ hi (g0.mono (fun _ h=>h.elim));have g8:Wr (· = w.heap.size+1) Wa (Wa.putObj (w.heap.size+1) (.loop { rec0 .ready with state:=.busy })):=(Wr.refl (· = w.heap.size+1) Wa).putObj (l:=w.heap.size+1) (.inl rfl) _;have gk:I pre M (Wa.putObj (w.heap.size+1) (.loop { rec0 .ready with state:=.busy })):=hMi _ _ _ _ gl (g8.mono (fun k e=>by have e':k=w.heap.size+1:=e;subst e';exact⟨by omega,h2⟩));have gi:(Wa.putObj (w.heap.size+1) (.loop { rec0 .ready with state:=.busy })).heap[w.heap.size+1]?=some (.loop { rec0 .ready with state:=.busy }):=World.putObj_heap_same g6;have go:(Wa.putObj (w.heap.size+1) (.loop { rec0 .ready with state:=.busy })).heap[w.heap.size]?=some (.deferred (some [])):=(World.putObj_heap_other (by omega)).trans gp;refine wpIn_mono (hbody _ pre x a' M W _ gk (hAx _ _ _ _ _ _ ga gr g8) (by simp;exact g0.size) (by omega) gd) ?_;intro e a3 W3 hp;cases e with
  | normal =>
    obtain⟨M',gm,g4,g3⟩:=hp;have gb:=(g4.keep _ (by simp;exact g6) (fun e=>by rcases e with e|e;exact h2 e;omega)).trans gi;have gq:=(g4.keep _ (by simp;omega) (fun e=>by rcases e with e|e;exact h3 e;omega)).trans go;have ge:=(Array.getElem?_eq_some_iff.1 gb).1;have g9:¬ M' (w.heap.size+1):=fun e=>by rcases g3 _ e with h|h;exact h2 h;omega
    have gh:¬ M' w.heap.size:=fun e=>by rcases g3 _ e with h|h;exact h3 h;omega
    refine⟨_,_,run_endRound (P:=P) none gb,rfl,fun k=>M' k\/k=w.heap.size+1\/k=w.heap.size,⟨M',?_,fun k=>Iff.rfl,g9,gh,?_,World.putObj_heap_same ge,(World.putObj_heap_other (by omega)).trans gq⟩,?_,?_⟩
    . exact hMi _ _ _ _ gm ((Wr.refl _ _).putObj (.inl ⟨by omega,g9⟩) _)
    ·intro k hk;rcases g3 k hk with h|h
     . exact h4 k h
     . right;omega
    ·refine((((g0.mono (N:=N) (fun _ h=>h.elim)).putObj (l:=w.heap.size+1) (.inl ((hN _).2 (.inr (.inl rfl)))) _).trans (N:=N) g4 (fun k _ h=>h) (fun k hk h=>?_)).putObj (l:=w.heap.size+1) (.inl ((hN _).2 (.inr (.inl rfl)))) _);rcases h with h|h
     . exact(hN k).2 (.inl h)
     . omega
    ·rintro k (hk|hk)
     ·rcases g3 k hk with h|h
      . exact .inl ((hN k).2 (.inl h))
      . exact .inr h
     . exact .inl ((hN k).2 (.inr hk))
  | ret=>exact hp.elim
  | exit id=>exact hp.elim
  | goto t=>exact hp.elim
  | panic ch=>exact hp.elim
  | outgrown=>exact hp.elim
 . exact⟨M0,gt,fun k=>Iff.rfl,fun e=>by have:=(g2 _ e).2;omega,fun e=>by have:=(g2 _ e).2;omega,fun k h=>.inl h,gs,gu⟩
 ·rintro e W2 ⟨⟨v,rfl⟩,xs,N,g7,⟨M,hi,hN,h2,h3,h4,hl,hd⟩,gg,_⟩;refine⟨none,_,run_endLoop (P:=P) hl (by simp[rec0]),hdone xs _ M _ g7 (Nat.le_refl _) h3 ?_ h4 ?_ ((World.putObj_heap_other (by omega)).trans hd)⟩
  . exact hMi _ _ _ _ hi ((Wr.refl _ _).putObj (.inl ⟨by omega,h2⟩) _)
  . exact((g5 (fun k=>n₀<=k)).trans gg (fun _ _ h=>h) (fun _ _ h=>h)).putObj (.inl (by omega)) _
end
end Go.Proofs.YtgmbklaolcmljaaGreat

namespace Go.Proofs.YtgmbklaolcmljaaGreat
open Go.Proofs.Tryz
open Go.RowKit Go.Shelf
open Go.ChangeMaps (setBlock)
def Zdd (q:Nat×Nat):List Value:=[.int .i64 q.1,.int .i64 q.2]
theorem Zjt {α β:Type}{f:α->β}{l:List α}(h:(l.map f).Nodup):l.Nodup:=(List.pairwise_map.1 h).imp fun hne e=>hne (congrArg f e)
def Yed:Value->Nat
 | .int _ n=>n.toNat
 | _=>0
def unE:Value->Nat×Nat
 | .agg cs=>(Yed (cs.getD 0 undef),Yed (cs.getD 1 undef))
 | _=>(0,0)
theorem Yec (q:Nat×Nat):unE (encE q)=q:=by simp[unE,encE,Yed]
structure Zkn (es:Array MapEntry)(clock:Nat)(seen:Array Nat)(ks:List (Nat×Nat))(sl:List MapEntry):Prop where
 sub:∀ e∈sl,e∈es.toList
 born:sl.map (·.born)=seen.toList
 nodup:(sl.map (·.born)).Nodup
 keys:sl.map (·.key)=ks.map encE
theorem Zkn.start (es:Array MapEntry)(clock:Nat):Zkn es clock #[] [] []:=⟨fun _ h=>(by cases h),rfl,List.nodup_nil,rfl⟩
theorem Zkn.next {es:Array MapEntry}{clock:Nat}{seen:Array Nat}{ks:List (Nat×Nat)}{sl:List MapEntry}(h:Zkn es clock seen ks sl){e:MapEntry}(he:e∈(leftOf es seen).toList){q:Nat×Nat}(hq:e.key=encE q):Zkn es clock (seen.push e.born) (ks++[q]) (sl++[e]):=by
 obtain⟨h1,h2⟩:=mem_left he;refine⟨fun x hx=>?_,by simp[h.born],?_,by simp[h.keys,hq]⟩
 ·rcases List.mem_append.1 hx with hx|hx
  . exact h.sub x hx
  . simp at hx;subst hx;exact h1
 ·rw[List.map_append,List.nodup_append];refine⟨h.nodup,by simp,fun a ha b hb=>?_⟩;simp at hb;subst hb;rintro rfl;rw[h.born] at ha;have:seen.contains e.born=true:=by simpa using ha
  rw[this] at h2;cases h2
theorem Zkn.all {es:Array MapEntry}{clock:Nat}{seen:Array Nat}{ks:List (Nat×Nat)}{sl:List MapEntry}(h:Zkn es clock seen ks sl)(hn:(es.toList.map (·.born)).Nodup)(h0:(leftOf es seen).size=0):sl.Perm es.toList:=by
 have g0:=all_seen es seen h0;refine(List.perm_ext_iff_of_nodup (Zjt h.nodup) (Zjt hn)).2 fun e=>⟨h.sub e,fun he=>?_⟩
 have h1:=g0 e he;have h2:e.born∈sl.map (·.born):=by rw[h.born];simpa using h1
 obtain⟨x,hx,e1⟩:=List.mem_map.1 h2;have:x=e:=born_inj hn (h.sub x hx) he e1;rw[<- this];exact hx
theorem Zkn.keysOf {w:World}{b:Nat}{l:List ((Nat×Nat)×Value)}{es:Array MapEntry}{clock:Nat}{seen:Array Nat}{ks:List (Nat×Nat)}{sl:List MapEntry}(h:Zkn es clock seen ks sl)(hn:(es.toList.map (·.born)).Nodup)(h0:(leftOf es seen).size=0)
 (hl:es.toList.map (fun e=>(e.key,e.val))=l.map (fun p=>(encE p.1,p.2))):ks.Perm (l.map Prod.fst):=by
 have h1:(ks.map encE).Perm ((l.map Prod.fst).map encE):=by
  rw[<- h.keys];have h2:=(h.all hn h0).map (fun e:MapEntry=>e.key);refine h2.trans ?_;have h3:=congrArg (List.map Prod.fst) hl;simp only[List.map_map] at h3;have e1:(es.toList.map fun e:MapEntry=>e.key)=(l.map Prod.fst).map encE:=by
   rw[List.map_map];exact h3
  rw[e1]
 have h2:=h1.map unE;simpa [List.map_map,Function.comp_def,Yec] using h2
theorem Ydj:(prog.info? 257).map (fun i=>(i.zero,i.size,i.bytes))=some (some (.agg #[.int .i64 0,.int .i64 0]),2,16):=by kernel_rfl
structure KeyS (W0:World)(mb r clock:Nat)(es:Array MapEntry)(seen:Array Nat)(ks:List (Nat×Nat))(sl:List MapEntry)(v:Value)(oG:Own)(wr:World):Prop where
 low:Below W0.heap.size W0 wr
 it:wr.heap[r]?=some (.mapIter (some mb) clock seen clock)
 came:Zkn es clock seen ks sl
 row:RowR oG wr .slots 257 2 v ks.length (ks.flatMap Zdd)
 lt:Zah oG wr
 ge:∀ k q,oG k=some q->q=.slots/\W0.heap.size<=k
 no:oG r=none
 cnt:ks.length+(leftOf es seen).size<=es.size
theorem KeyS.next {W0:World}{mb r clock:Nat}{es:Array MapEntry}{seen:Array Nat}{ks:List (Nat×Nat)}{sl:List MapEntry}{v v':Value}{oG o1:Own}{wr w1 w2 w3 w4:World}(h:KeyS W0 mb r clock es seen ks sl v oG wr)(hr0:W0.heap.size<=r){e:MapEntry}(he:e∈(leftOf es seen).toList){q:Nat×Nat}(hq:e.key=encE q)
 (hw1:w1=wr\/w1=wr.drew) (hw2:w2=setBlock w1 r (.mapIter (some mb) clock (seen.push e.born) clock)) (hb3:Below w2.heap.size w2 w3)
 (hr:RowR o1 w4 .slots 257 2 v' (ks.length+1) (ks.flatMap Zdd++Zdd q)) (hc:Chg (· = .slots) oG o1 w3 w4) (hl:Zah o1 w4) :
 KeyS W0 mb r clock es (seen.push e.born) (ks++[q]) (sl++[e]) v' o1 w4:=by
 have g0:r<wr.heap.size:=(Array.getElem?_eq_some_iff.1 h.it).1;have z2:w2.heap.size=wr.heap.size:=by rw[hw2];rcases hw1 with rfl|rfl<;>simp[setBlock]
 have i2:w2.heap[r]?=some (.mapIter (some mb) clock (seen.push e.born) clock):=by rw[hw2];rcases hw1 with rfl|rfl<;>simp[setBlock,g0]
 have k2:∀ g,g≠r->w2.heap[g]?=wr.heap[g]?:=fun g hg=>by
  rw[hw2];rcases hw1 with rfl|rfl<;>simp[setBlock,Array.getElem?_setIfInBounds,Ne.symm hg]<;>rfl
 have b2:Below W0.heap.size W0 w2:=h.low.trans ⟨by rw[hw2];rcases hw1 with rfl|rfl<;>rfl,by rw[hw2];rcases hw1 with rfl|rfl<;>rfl,by rw[hw2];rcases hw1 with rfl|rfl<;>rfl,by omega,fun g hg=>k2 g (by omega)⟩;have nn:∀ g,g<W0.heap.size->oG g=none:=fun g hg=>by
  cases eo:oG g with
  | none=>rfl
  | some r=>have:=(h.ge g r eo).2;omega
 have s0:=h.low.size;have b3:=b2.trans (hb3.mono (by omega));refine⟨b3.trans ⟨hc.os,hc.tape,hc.output,hc.size,fun g hg=>hc.alien (by have:=b3.size;omega) (nn g hg)⟩,?_,h.came.next he hq,by simpa using hr,hl,fun g q hg=>?_,hc.alien' (by have:=hb3.size;omega) h.no,by have h1:=left_shrinks es seen e he;have h2:=h.cnt;simp;omega⟩
 . rw[hc.alien (by have:=hb3.size;omega) h.no,hb3.block r (by omega)];exact i2
 ·by_cases eo:o1 g=oG g
  . rw[eo] at hg;exact h.ge g q hg
  ·obtain⟨a1,p,a2,a3⟩:=hc.new g eo;rw[hg] at a2;cases a2
   have:=hb3.size;exact⟨a3,by omega⟩
theorem KeyS.row3 {W0:World}{mb r clock:Nat}{es:Array MapEntry}{seen:Array Nat}{ks:List (Nat×Nat)}{sl:List MapEntry}{v:Value}{oG:Own}{wr w1 w2 w3:World}(h:KeyS W0 mb r clock es seen ks sl v oG wr){x:Obj}(hw1:w1=wr\/w1=wr.drew)(hw2:w2=setBlock w1 r x)(hb3:Below w2.heap.size w2 w3) :
 RowR oG w3 .slots 257 2 v ks.length (ks.flatMap Zdd)/\Zah oG w3:=by
 have z2:w2.heap.size=wr.heap.size:=by rw[hw2];rcases hw1 with rfl|rfl<;>simp[setBlock]
 have k2:∀ g,g≠r->w2.heap[g]?=wr.heap[g]?:=fun g hg=>by
  rw[hw2];rcases hw1 with rfl|rfl<;>simp[setBlock,Array.getElem?_setIfInBounds,Ne.symm hg]<;>rfl
 refine⟨h.row.keep (fun g hg=>?_) (fun _ h=>h),h.lt.mono (by have:=hb3.size;omega)⟩;have h1:=h.lt g _ hg;rw[hb3.block g (by omega)];exact k2 g (by rintro rfl;rw[h.no] at hg;cases hg)
end Go.Proofs.YtgmbklaolcmljaaGreat

namespace Go.Proofs
open Go.Proofs.Tryz
open Go.Shelf
def Tryz.sortKeys_ren:Go.Shelf.Ren:=⟨fun|6=>212|15=>219|14=>218|28=>230|29=>231|20=>222|21=>223|22=>224|23=>225|24=>226|25=>227|26=>228|27=>229|46=>232|47=>233|48=>234|49=>235|50=>236|57=>237|n=>n,fun|22=>283|24=>257|25=>295|3=>3|39=>135|0=>0|53=>131|55=>49|4=>4|46=>301|45=>300|50=>33|5=>5|9=>9|66=>308|70=>312|76=>314|77=>59|n=>n,fun|n=>n⟩
theorem Tryz.sortKeys:Go.Proofs.SlLaysF0.n6 prog Tryz.sortKeys_ren:={
 mixed:=by kernel_rfl
 f6:=⟨Tryz.f212.name,by decide,func212.trans (congrArg some (by kernel_rfl))⟩
 f14:=⟨Tryz.f218.name,by decide,func218.trans (congrArg some (by kernel_rfl))⟩
 f15:=func219.trans (congrArg some (by kernel_rfl))
 f20:=⟨Tryz.f222.name,by decide,func222.trans (congrArg some (by kernel_rfl))⟩
 f21:=⟨Tryz.f223.name,by decide,func223.trans (congrArg some (by kernel_rfl))⟩
 f22:=⟨Tryz.f224.name,by decide,func224.trans (congrArg some (by kernel_rfl))⟩
 f23:=⟨Tryz.f225.name,by decide,func225.trans (congrArg some (by kernel_rfl))⟩
 f24:=⟨Tryz.f226.name,by decide,func226.trans (congrArg some (by kernel_rfl))⟩
 f25:=⟨Tryz.f227.name,by decide,func227.trans (congrArg some (by kernel_rfl))⟩
 f26:=⟨Tryz.f228.name,by decide,func228.trans (congrArg some (by kernel_rfl))⟩
 f27:=⟨Tryz.f229.name,by decide,func229.trans (congrArg some (by kernel_rfl))⟩
 f28:=func230.trans (congrArg some (by kernel_rfl))
 f29:=func231.trans (congrArg some (by kernel_rfl))
 f46:=⟨Tryz.f232.name,by decide,func232.trans (congrArg some (by kernel_rfl))⟩
 f47:=func233.trans (congrArg some (by kernel_rfl))
 f48:=func234.trans (congrArg some (by kernel_rfl))
 f49:=⟨Tryz.f235.name,by decide,func235.trans (congrArg some (by kernel_rfl))⟩
 f50:=⟨Tryz.f236.name,by decide,func236.trans (congrArg some (by kernel_rfl))⟩
 f57:=⟨Tryz.f237.name,by decide,func237.trans (congrArg some (by kernel_rfl))⟩
 t0:=underlying0
 a0:=Tryz.isAgg0
 z0:=Tryz.sizeOf0
 v0:=zeroValue0
 t3:=underlying3
 a3:=Tryz.isAgg3
 z3:=Tryz.sizeOf3
 v3:=zeroValue3
 t4:=underlying4
 a4:=Tryz.isAgg4
 z4:=Tryz.sizeOf4
 v4:=zeroValue4
 t5:=underlying5
 a5:=Tryz.isAgg5
 z5:=Tryz.sizeOf5
 v5:=zeroValue5
 t9:=underlying9
 a9:=Tryz.isAgg9
 z9:=Tryz.sizeOf9
 v9:=zeroValue9
 t22:=underlying283
 a22:=Tryz.isAgg283
 z22:=Tryz.sizeOf283
 v22:=zeroValue283
 t25:=underlying295
 a25:=Tryz.isAgg295
 z25:=Tryz.sizeOf295
 v25:=zeroValue295
 t39:=underlying135
 a39:=Tryz.isAgg135
 z39:=Tryz.sizeOf135
 v39:=zeroValue135
 t45:=underlying300
 a45:=Tryz.isAgg300
 z45:=Tryz.sizeOf300
 v45:=zeroValue300
 t46:=underlying301
 a46:=Tryz.isAgg301
 z46:=Tryz.sizeOf301
 v46:=zeroValue301
 t50:=underlying33
 a50:=Tryz.isAgg33
 z50:=Tryz.sizeOf33
 v50:=zeroValue33
 t53:=underlying131
 a53:=Tryz.isAgg131
 z53:=Tryz.sizeOf131
 v53:=zeroValue131
 t55:=underlying49
 a55:=Tryz.isAgg49
 z55:=Tryz.sizeOf49
 v55:=zeroValue49
 t66:=underlying308
 a66:=Tryz.isAgg308
 z66:=Tryz.sizeOf308
 v66:=zeroValue308
 t70:=underlying312
 a70:=Tryz.isAgg312
 z70:=Tryz.sizeOf312
 v70:=zeroValue312
 t76:=underlying314
 a76:=Tryz.isAgg314
 z76:=Tryz.sizeOf314
 v76:=zeroValue314
 t77:=underlying59
 a77:=Tryz.isAgg59
 z77:=Tryz.sizeOf59
 v77:=zeroValue59 }
def Tryz.cmpInt_ren:Go.Shelf.Ren:=⟨fun|5=>215|7=>220|n=>n,fun|22=>3|3=>3|4=>4|n=>n,fun|n=>n⟩
theorem Tryz.cmpInt:Go.Proofs.SlLaysC2.n5 prog Tryz.cmpInt_ren:={
 mixed:=by kernel_rfl
 f5:=⟨Tryz.f215.name,by decide,func215.trans (congrArg some (by kernel_rfl))⟩
 f7:=⟨Tryz.f220.name,by decide,func220.trans (congrArg some (by kernel_rfl))⟩
 t3:=underlying3
 a3:=Tryz.isAgg3
 z3:=Tryz.sizeOf3
 v3:=zeroValue3
 t4:=underlying4
 a4:=Tryz.isAgg4
 z4:=Tryz.sizeOf4
 v4:=zeroValue4
 t22:=underlying3
 a22:=Tryz.isAgg3
 z22:=Tryz.sizeOf3
 v22:=zeroValue3 }
def Tryz.cmpEdge_ren:Go.Shelf.Ren:=⟨fun|5=>216|7=>221|n=>n,fun|22=>113|3=>3|4=>4|n=>n,fun|n=>n⟩
theorem Tryz.cmpEdge:Go.Proofs.SlLaysC2.n5 prog Tryz.cmpEdge_ren:={
 mixed:=by kernel_rfl
 f5:=⟨Tryz.f216.name,by decide,func216.trans (congrArg some (by kernel_rfl))⟩
 f7:=⟨Tryz.f221.name,by decide,func221.trans (congrArg some (by kernel_rfl))⟩
 t3:=underlying3
 a3:=Tryz.isAgg3
 z3:=Tryz.sizeOf3
 v3:=zeroValue3
 t4:=underlying4
 a4:=Tryz.isAgg4
 z4:=Tryz.sizeOf4
 v4:=zeroValue4
 t22:=underlying113
 a22:=Tryz.isAgg113
 z22:=Tryz.sizeOf113
 v22:=zeroValue113 }
end Go.Proofs

namespace Go.Proofs.YtgmbklaolcmljaaGreat
open Go.Proofs.Tryz
open Go.RowKit Go.Shelf Go.Lib Go.Sort
def orI:List Int->Int
 | []=>0
 | z::zs=>if z=0 then orI zs else z
theorem Yau {zs:List Int}{k:Nat}(hk:k<zs.length):orI (zs.drop k)=if at0 zs k=0 then orI (zs.drop (k+1)) else at0 zs k:=by
 rw[Zbw hk,List.drop_eq_getElem_cons hk];rfl
theorem Yez (a:Option Addr)(c:Nat)(zs:List Int)(w:World)(hz:Zau w a zs)(hl:zs.length<=1000000) :
 Calls prog 214 #[.slice a zs.length c] w fun x w'=>x=.returned (.int .i64 (orI zs))/\w'=w:=by
 have HZ:=Hd hz;clear hz
 go_enter func214,ntmps214
 go_wp2_with fail
 go_loopw [8] (fun s8 wr=>∃ k:Nat,k<=zs.length/\s8=.int .i64 k/\w=wr/\orI zs=orI (zs.drop k)) (fun s8 _=>zs.length-(intOf s8).toNat)
 case atStart=>exact⟨0,Nat.zero_le _,rfl,rfl,rfl⟩
 case round =>
  obtain⟨k,hk,rfl,rfl,ho⟩:=hrel
  by_cases g0:k<zs.length
  ·obtain⟨b,off,ha,hc⟩:=HZ.out.cells k g0;subst ha;have g2:(k:Int)<zs.length:=by omega
   have hs:=Yau g0
   by_cases h0:at0 zs k=0
   ·rw[if_pos h0] at hs;rw[h0] at hc;have HO:=Hd (ho.trans hs);clear ho hs h0;go_wp2_with fail;go_roundw
    case rel=>exact⟨k+1,by omega,by go_num,trivial,HO.out⟩
    case measure=>simp[intOf];omega
   ·rw[if_neg h0] at hs;have HO:=Hd (ho.trans hs);have g1:(at0 zs k == (0:Int))=false:=by simpa using h0
    clear ho hs h0
    generalize at0 zs k=z at hc g1 HO
    go_wp2_with fail;go_ret;exact⟨by rw[HO.out];rfl,rfl⟩
  ·obtain rfl:k=zs.length:=by omega
   have HO:Hid (orI zs=0):=by
    refine Hd ?_
    show _=_
    rw[ho];simp[orI]
   clear ho;go_wp2_with fail;go_ret;exact⟨by rw[HO.out];rfl,rfl⟩
def cfK (f:Nat×Nat->Option Nat)(x y:Nat×Nat):Int:=orI [compareInt ((f x).getD 0:Nat) ((f y).getD 0:Nat),compareInt x.1 y.1,compareInt x.2 y.2]
theorem ltK (f:Nat×Nat->Option Nat)(x y:Nat×Nat):ltOf (cfK f) x y=decide ((f x).getD 0<(f y).getD 0\/(f x).getD 0=(f y).getD 0/\(x.1<y.1\/x.1=y.1/\x.2<y.2)):=by
 unfold ltOf cfK
 generalize (f x).getD 0=a
 generalize (f y).getD 0=b
 obtain⟨x1,x2⟩:=x;obtain⟨y1,y2⟩:=y;have hc:∀ p q:Nat,compareInt (p:Int) (q:Int)=if p<q then -1 else if p=q then 0 else 1:=fun p q=>by
  unfold compareInt
  by_cases h1:p<q
  . rw[if_pos (by omega),if_pos h1]
  ·by_cases h2:p=q
   . rw[if_neg (by omega),if_neg (by omega),if_neg h1,if_pos h2]
   . rw[if_neg (by omega),if_pos (by omega),if_neg h1,if_neg h2]
 simp only[hc,orI]
 by_cases h1:a<b
 . simp[h1]
 ·by_cases h2:a=b
  ·subst h2
   by_cases h3:x1<y1
   . simp[h3]
   ·by_cases h4:x1=y1
    ·subst h4
     by_cases h5:x2<y2
     . simp[h5]
     ·by_cases h6:x2=y2
      . subst h6;simp
      . simp[h5,h6]
    . simp[h3,h4]
  . simp[h1,h2]
theorem swoK (f:Nat×Nat->Option Nat):SWO (ltOf (cfK f)) where
 irrefl x:=by rw[ltK];simp
 trans x y z h1 h2:=by rw[ltK] at *;simp at *;omega
 ntrans x y z h1 h2:=by rw[ltK] at *;simp at *;omega
theorem Zu2 (f:Nat×Nat->Option Nat)(x y:Nat×Nat)(Bx t mb:Nat)(W:World)(cB:W.cell? ⟨Bx,0,none⟩=some (.pointer (some ⟨t,0,none⟩)))(cT:W.cell? ⟨t,0,none⟩=some (.map (some mb)))
 (hlk:∀ W' k,Below W.heap.size W W'->(Instr.lookup 232 (.map (some mb)) (.agg #[.int .i64 (k:Nat×Nat).1,.int .i64 k.2]) false).run prog W'=.ok (.int .i64 ((f k).getD 0:Nat)) W') :
 Calls prog 213 #[.agg #[.int .i64 x.1,.int .i64 x.2],.agg #[.int .i64 y.1,.int .i64 y.2],.pointer (some ⟨Bx,0,none⟩)] W fun e w'=>e=.returned (.int .i64 (cfK f x y))/\∃ q os',w'=grow (W.drewN q) os':=by
 obtain⟨W1,g2⟩:∃ W1,W1=(W.alloc (.cells #[.int .i64 x.1,.int .i64 x.2] 257)).alloc (.cells #[.int .i64 y.1,.int .i64 y.2] 257):=⟨_,rfl⟩;have g0:Below W.heap.size W W1:=by rw[g2];exact(Zaf _ _).alloc (by simp) _
 have g5:W1.heap[W.heap.size]?=some (.cells #[.int .i64 x.1,.int .i64 x.2] 257 (0,0)):=by rw[g2];exact(Below.heap_alloc _ _ _ (by simp)).trans (heap_alloc_new W _)
 have g4:W1.heap[W.heap.size+1]?=some (.cells #[.int .i64 y.1,.int .i64 y.2] 257 (0,0)):=by
  rw[g2];have:=heap_alloc_new (W.alloc (.cells #[.int .i64 x.1,.int .i64 x.2] 257)) (.cells #[.int .i64 y.1,.int .i64 y.2] 257)
  rwa [World.size_alloc] at this
 obtain⟨x0,x1,_⟩:=cells2 g5;obtain⟨y0,y1,_⟩:=cells2 g4;have b1:=(g0.cell (p:=⟨Bx,0,none⟩) (Zab cB)).trans cB;have t1:=(g0.cell (p:=⟨t,0,none⟩) (Zab cT)).trans cT;obtain⟨i,hi⟩:∃ i:Int,i=compareInt ((f x).getD 0:Nat) ((f y).getD 0:Nat):=⟨_,rfl⟩;obtain⟨j,hj⟩:∃ j:Int,j=compareInt x.1 y.1:=⟨_,rfl⟩;obtain⟨k,hk⟩:∃ k:Int,k=compareInt x.2 y.2:=⟨_,rfl⟩;have g6:cfK f x y=orI [i,j,k]:=by unfold cfK;rw[hi,hj,hk]
 obtain⟨W2,g3⟩:∃ W2,W2=W1.drew.alloc (.cells #[.int .i64 i,.int .i64 j,.int .i64 k] 3):=⟨_,rfl⟩;have g1:Below W1.heap.size W1 W2:=by rw[g3];exact(Zag W1 1).alloc (Nat.le_refl _) _
 have lx0:=hlk W1.drew x (g0.trans ((Zag W1 1).mono g0.size));have ly0:=hlk W1.drew y (g0.trans ((Zag W1 1).mono g0.size));have lx2:=hlk W2 x (g0.trans (g1.mono g0.size));have ly2:=hlk W2 y (g0.trans (g1.mono g0.size));have x02:=(g1.cell (p:=⟨W.heap.size,0,none⟩) (Zab x0)).trans x0;have x12:=(g1.cell (p:=⟨W.heap.size,1,none⟩) (Zab x1)).trans x1;have y02:=(g1.cell (p:=⟨W.heap.size+1,0,none⟩) (Zab y0)).trans y0;have y12:=(g1.cell (p:=⟨W.heap.size+1,1,none⟩) (Zab y1)).trans y1;have b2:=(g1.cell (p:=⟨Bx,0,none⟩) (Zab b1)).trans b1;have t2:=(g1.cell (p:=⟨t,0,none⟩) (Zab t1)).trans t1;have HI:=Hd (fun w=>AnyG.cmp_Compare_int Tryz.cmpInt ((f x).getD 0:Nat) ((f y).getD 0:Nat) w);have HJ:=Hd (fun w=>AnyG.cmp_Compare_int Tryz.cmpEdge x.1 y.1 w);have HK:=Hd (fun w=>AnyG.cmp_Compare_int Tryz.cmpEdge x.2 y.2 w)
 have g8:Hid (Calls prog 214 #[.slice (some ⟨W1.drew.heap.size,0,none⟩) 3 3] W2 fun e w'=>e=.returned (.int .i64 (orI [i,j,k]))/\w'=W2):=Hd (Yez _ 3 [i,j,k] W2 ⟨by simp,fun q hq=>⟨_,0,rfl,by
  rw[Nat.zero_add,g3,cell_of_row _ _ _ _ _ _ (heap_alloc_new W1.drew _)];simp only[List.length_cons,List.length_nil] at hq
  match q,hq with
  | 0,_=>rfl
  | 1,_=>rfl
  | 2,_=>rfl⟩⟩ (by simp))
 have HW1:Hid (_=W1):=Hd g2.symm;have g7:Hid (_=W2):=Hd g3.symm;have g9:Hid (W2=grow (W.drewN 1) #[.cells #[.int .i64 x.1,.int .i64 x.2] 257,.cells #[.int .i64 y.1,.int .i64 y.2] 257,.cells #[.int .i64 i,.int .i64 j,.int .i64 k] 3]):=Hd (by rw[g3,g2,Zg6,Zg6,alloc_eq_grow,alloc_eq_grow,alloc_eq_grow,grow_grow,grow_grow];rfl);rw[<- hi] at HI;rw[<- hj] at HJ;rw[<- hk] at HK;rw[g6];clear g2 g3 g0 g1 hlk cB cT hi hj hk g6 g5 g4
 go_enter func213,ntmps213
 go_upto_region 1 with fail;rw[HW1.out];refine Zam (fun W:World=>W=W1.drew\/W=W2) false 26 [(0,false),(1,false),(2,false),(3,false),(4,false),(5,false),(6,false),(7,false),(8,false),(9,false),(10,false),(11,false),(13,false),(14,false),(15,false),(16,false),(18,false),(19,false),(20,false),(21,false),(12,true),(17,true),(22,true),(23,true),(24,true),(25,false)] (by kernel_rfl) (by kernel_rfl) (.inl rfl) ?_;simp only[planned,Zdx]
 iterate 20
  refine Zao rfl ?_;apply Exists.intro;refine⟨fun w' hw=>?_,?_⟩
  ·rcases hw with rfl|rfl
   . go_simp;rfl
   ·go_simp
    all_goals (try rfl)
  simp only[Zai]
 refine Zbq (R:=fun v w'=>v=.int .i64 i/\w'=W1.drew) rfl (by go_simp;rfl) ((HI.out _).mono (fun e w' h=>⟨_,h.1,.inl h.2,rfl,h.2⟩)) ?_;rintro _ w' _ ⟨rfl,rfl⟩;simp only[Zai];refine Zbq (R:=fun v w'=>v=.int .i64 j/\w'=W1.drew) rfl (by go_simp;rfl) ((HJ.out _).mono (fun e w' h=>⟨_,h.1,.inl h.2,rfl,h.2⟩)) ?_;rintro _ w' _ ⟨rfl,rfl⟩;simp only[Zai];refine Zbq (R:=fun v w'=>v=.int .i64 k/\w'=W1.drew) rfl (by go_simp;rfl) ((HK.out _).mono (fun e w' h=>⟨_,h.1,.inl h.2,rfl,h.2⟩)) ?_;rintro _ w' _ ⟨rfl,rfl⟩;simp only[Zai];refine Zn4 rfl (fun K hK=>?_);unfold Oper.wp;go_simp;rw[Zg6,g7.out];refine hK _ _ (.inr rfl) ?_;refine Zbq (R:=fun v w'=>v=.int .i64 (orI [i,j,k])/\w'=W2) rfl (by go_simp) (g8.out.mono (fun e w' h=>⟨_,h.1,.inr h.2,rfl,h.2⟩)) ?_;rintro _ w' _ ⟨rfl,rfl⟩;simp only[Zai];refine Zao rfl ?_;apply Exists.intro;refine⟨fun w' hw=>?_,?_⟩
 . go_simp;rfl
 simp only[Zai];refine Ze8 ?_;go_wp2_with fail;go_ret;exact⟨rfl,_,_,g9.out⟩
end Go.Proofs.YtgmbklaolcmljaaGreat

namespace Go.Proofs.YtgmbklaolcmljaaGreat
open Go.Proofs.Tryz
open Go.RowKit Go.Shelf Go.Lib Go.Sort
theorem Zsj (w:World)(blk m:Nat)(dk:Array (Nat×Nat))(os:Array Obj){g:Nat}(hg:g<w.heap.size)(hne:g≠blk):(sortWorldK Zdd 2 w blk 0 m dk os).heap[g]?=w.heap[g]?:=by
 unfold sortWorldK grow putRowK putRow mapBlock;simp[Array.getElem?_append,Array.getElem?_modify,Array.getElem_modify,hg,Ne.symm hne]
theorem Zy2 (w:World)(blk m:Nat)(dk:Array (Nat×Nat))(os:Array Obj):w.heap.size<=(sortWorldK Zdd 2 w blk 0 m dk os).heap.size:=by
 have h:(sortWorldK Zdd 2 w blk 0 m dk os).heap.size=w.heap.size+os.size:=by
  unfold sortWorldK grow putRowK;simp
 omega
theorem Yew {w:World}{mb:Nat}{lm:List ((Nat×Nat)×Value)}{f:Nat×Nat->Option Nat}(h:Za5 w mb encE lm)(hf:∀ k,getL lm k=(f k).map (fun(id:Nat)=>Value.int .i64 id))(k:Nat×Nat) :
 (Instr.lookup 232 (.map (some mb)) (.agg #[.int .i64 k.1,.int .i64 k.2]) false).run prog w=.ok (.int .i64 ((f k).getD 0:Nat)) w:=by
 have h1:=h.lookup Zp2 underlying232 zeroValue3 k false;rw[hf k] at h1;cases hk:f k with
 | none=>rw[hk] at h1;exact h1
 | some id=>rw[hk] at h1;exact h1
theorem Zry {f:Nat×Nat->Option Nat}{ks:List (Nat×Nat)}{Bx t mb blk cap:Nat}{w:World}{lm:List ((Nat×Nat)×Value)}(hH:HoldsK Zdd 2 w blk 0 ks.toArray)(hblk:blk<w.heap.size)(hlen:ks.length<1000000000)
 (cB:w.cell? ⟨Bx,0,none⟩=some (.pointer (some ⟨t,0,none⟩))) (cT:w.cell? ⟨t,0,none⟩=some (.map (some mb))) (hm:Za5 w mb encE lm) (hf:∀ k,getL lm k=(f k).map (fun(id:Nat)=>Value.int .i64 id)) (n1:Bx≠blk) (n2:t≠blk) (n3:mb≠blk) :
 Calls prog 212 #[.slice (some ⟨blk,0,none⟩) ks.length cap,.func (.func 213) #[] #[.pointer (some ⟨Bx,0,none⟩)]] w fun e w'=>e=.returned (.tuple #[])/\∃ ks':List (Nat×Nat),ks'.Perm ks/\HoldsK Zdd 2 w' blk 0 ks'.toArray/\w.heap.size<=w'.heap.size/\w'.os=w.os/\w'.tape=w.tape/\w'.output=w.output/\∀ g,g<w.heap.size->g≠blk->w'.heap[g]?=w.heap[g]?:=by
 have g1:CmpLays prog 213 #[.pointer (some ⟨Bx,0,none⟩)] Zdd 2 (cfK f) blk 0 ks.toArray.size w:=by
  intro m os dk hs x y;have hk:∀ {p:Addr} {v:Value},w.cell? p=some v->p.block≠blk->(sortWorldK Zdd 2 w blk 0 m dk os).cell? p=some v:=fun hc hn=>(World.cell?_of_block (w:=w) (Zsj w blk m dk os (Zab hc) hn)).trans hc
  refine Zu2 f x y Bx t mb _ (hk cB n1) (hk cT n2) (fun W' k hb=>?_);obtain⟨es,c,g3,rest⟩:=hm.ex;refine Yew (lm:=lm) ⟨⟨es,c,Eq.trans ?_ g3,rest⟩,hm.nodup⟩ hf k;exact(hb.block mb (Nat.lt_of_lt_of_le hm.lt (Zy2 w blk m dk os))).trans (Zsj w blk m dk os hm.lt n3)
 have g0:=AnyQ.slices_SortFunc Tryz.sortKeys 2 Tryz.isAgg257 Tryz.sizeOf257 Zdd (fun _=>rfl) (fun x v hv=>by simp[Zdd] at hv;rcases hv with rfl|rfl<;>rfl) (cfK f) (swoK f) 213 #[.pointer (some ⟨Bx,0,none⟩)] blk 0 cap ks.toArray w (enters_of func213 (by kernel_rfl) rfl) g1 hH hblk (by simp;omega)
 change Calls prog 212 _ _ _ at g0
 have e:ks.toArray.size=ks.length:=by simp
 rw[e] at g0;refine g0.mono ?_;rintro x w' ⟨rfl,d',n,os,hp,_,rfl⟩;obtain⟨p1,_,p3⟩:=hp;have p1':d'.size=ks.length:=by simpa using p1
 refine⟨rfl,d'.toList,?_,?_,Zy2 _ _ _ _ _,rfl,rfl,rfl,fun g hg g2=>Zsj _ _ _ _ _ hg g2⟩
 ·have q1:d'.extract 0 ks.length=d':=by rw[<- p1'];simp
  rw[q1] at p3;simpa using p3
 . have h1:HoldsK Zdd 2 (Sort.ahead w n) blk 0 ks.toArray:=hH;have h2:=holdsK_putRowK Zdd 2 (Sort.ahead w n) blk 0 ks.toArray d' h1 (by simpa using p1');have h3:=holdsK_grow Zdd 2 (putRowK Zdd 2 (Sort.ahead w n) blk 0 d') os blk 0 d' (by simp[putRowK,putRow,mapBlock,hblk]) h2;simpa using(show HoldsK Zdd 2 (sortWorldK Zdd 2 w blk 0 n d' os) blk 0 d' from h3)
end Go.Proofs.YtgmbklaolcmljaaGreat

namespace Go.Proofs.YtgmbklaolcmljaaGreat
open Go.Proofs.Tryz
theorem Zxd {f:Nat×Nat->Option Nat}{ks:List (Nat×Nat)}{lm:List ((Nat×Nat)×Value)}(hp:ks.Perm (lm.map Prod.fst))(hn:(lm.map Prod.fst).Nodup)(hf:∀ k,getL lm k=(f k).map (fun(id:Nat)=>Value.int .i64 id)){xs:List ((Nat×Nat)×Nat)}(hx:xs=ks.map (fun k=>(k,(f k).getD 0))) :
 (xs.map Prod.fst).Nodup/\∀ k id,(k,id)∈xs↔f k=some id:=by
 subst hx;have e:(ks.map (fun k=>(k,(f k).getD 0))).map Prod.fst=ks:=by simp[List.map_map,Function.comp_def]
 have hm:∀ k,k∈ks↔f k≠none:=fun k=>by
  rw[hp.mem_iff];have h1:=Zcw (l:=lm) (k:=k);rw[hf k] at h1;constructor
  . intro hk e;rw[e] at h1;obtain⟨p,g0,rfl⟩:=List.mem_map.1 hk;exact h1.1 rfl p g0 rfl
  ·intro hk
   by_cases hc:k∈lm.map Prod.fst
   . exact hc
   ·exfalso;have:=h1.2 (fun p g0 e=>hc (List.mem_map.2 ⟨p,g0,e⟩));cases h2:f k with
    | none=>exact hk h2
    | some i=>rw[h2] at this;cases this
 refine⟨by rw[e];exact hp.nodup_iff.2 hn,fun k id=>?_⟩;simp only[List.mem_map,Prod.mk.injEq];constructor
 ·rintro⟨k0,h0,rfl,rfl⟩;cases h2:f k0 with
  | none=>exact absurd h2 ((hm k0).1 h0)
  | some i=>rfl
 . intro h;exact⟨k,(hm k).2 (by rw[h];simp),rfl,by rw[h];rfl⟩
theorem Ybd {α:Type}{G:List α->Prop}{xs:List α}(hg:G xs){k:Nat}{x:α}(hx:xs[k]?=some x):∃ suf,G (xs.take k++x::suf)/\xs.take (k+1)=xs.take k++[x]:=by
 obtain⟨hk,e⟩:=List.getElem?_eq_some_iff.1 hx;refine⟨xs.drop (k+1),?_,by rw[List.take_succ_eq_append_getElem hk,e]⟩;have:xs.take k++x::xs.drop (k+1)=xs:=by
  rw[<- e,<- List.drop_eq_getElem_cons hk];exact List.take_append_drop k xs
 rw[this];exact hg
open Go.RowKit
theorem Zhq {o:Own}{w:World}{sb:Nat}{d:Zac}{V:Nat->BF}(h:Zaq o w sb d)(hlt:Zah o w)(hk:Zaj d V)(f:Nat)(hf:okE (Zaa d) f)(v:Int) :
 Calls prog 202 #[.pointer (some ⟨sb,0,none⟩),.int .i64 f,.int .i64 v] w fun x w'=>x=.returned (.tuple #[.int .i64 (cofs d f v).1,.int .i64 (cofs d f v).2])/\Below w.heap.size w w':=by
 have HA:=Hd (Zjc h hlt hk f hf);clear h hk hlt hf;unfold atV at HA;unfold cofs;cases hb:Zaa d (f/2) with
 | none =>
   rw[hb] at HA;clear hb
   go_enter func202,ntmps202
   go_wp2_with fail;refine HA.out.mono ?_;rintro x w' ⟨rfl,hb⟩;have HB:=Hd hb;clear hb;go_wp2_with fail
   go_ret2
   exact⟨rfl,HB.out⟩
 | some b =>
   rw[hb] at HA;clear hb
   by_cases e:(b.v:Int)=v
   ·subst e;have HE:Hid ((if (b.v:Int)=b.v then (eflip b.lo (eneg f),eflip b.hi (eneg f)) else (f,f))=(eflip b.lo (eneg f),eflip b.hi (eneg f))):=by show _=_;rw[if_pos rfl]
    go_enter func202,ntmps202
    go_wp2_with fail;refine HA.out.mono ?_;rintro x w' ⟨rfl,hb⟩;have HB:=Hd hb;clear hb;go_wp2_with fail
    go_ret2
    exact⟨by first|rfl|(rw[HE.out];rfl),HB.out⟩
   ·have HE:Hid ((if (b.v:Int)=v then (eflip b.lo (eneg f),eflip b.hi (eneg f)) else (f,f))=(f,f)):=by show _=_;rw[if_neg e]
    have H1:((b.v:Int) == v)=false:=by simpa using e
    go_enter func202,ntmps202
    go_wp2_with fail;refine HA.out.mono ?_;rintro x w' ⟨rfl,hb⟩;have HB:=Hd hb;clear hb;go_wp2_with fail
    go_ret2
    exact⟨by first|rfl|(rw[HE.out];rfl),HB.out⟩
def Zeh (d:Zac)(k:Nat):Zac:={ d with vars:=(d.vars.set k (d.vars.getD (k+1) 0)).set (k+1) (d.vars.getD k 0),level:=(d.level.set (d.vars.getD k 0) (k+1)).set (d.vars.getD (k+1) 0) k }
theorem Zon:(prog.info? 3).map (fun i=>i.size)=some 1:=by kernel_rfl
theorem Zfg {l:List Nat}{k:Nat}(hk:k<l.length):(l.map nat64)[k]?=some (.int .i64 (l.getD k 0:Nat)):=by
 rw[List.getElem?_map,List.getElem?_eq_getElem hk];simp[nat64,List.getD,hk]
theorem Zl2 {o:Own}{w:World}{sb:Nat}{d:Zac}{s:Zaw}(h:Zal o w sb d s)(k:Nat)(hk:k+1<d.vars.length)(hl:d.vars.length<=64)(ha:d.vars.getD k 0<d.level.length)(hb:d.vars.getD (k+1) 0<d.level.length) :
 Calls prog 190 #[.pointer (some ⟨s.lb,0,none⟩),.int .i64 k] w fun x w'=>x=.returned (.tuple #[])/\Zal o w' sb (Zeh d k) s/\Chg Zan o o w w':=by
 obtain⟨d0,d1,_⟩:=cells2 h.lev;obtain⟨gv,cv,g5,g2,_⟩:=h.vars.shape (by omega);obtain⟨gl,cl,g6,g3,_⟩:=h.level.shape (by omega);have gd:=h.len;have r1:=h.vars;have r2:=h.level;rw[g5] at r1 d0;rw[g6] at r2 d1;have a0:=r1.cell k (by simp;omega);have a1:=r1.cell (k+1) (by simp;omega);rw[Zfg (by omega)] at a0;rw[Zfg hk] at a1;obtain⟨A,hA⟩:∃ A,A=d.vars.getD k 0:=⟨_,rfl⟩;obtain⟨B,hB⟩:∃ B,B=d.vars.getD (k+1) 0:=⟨_,rfl⟩;rw[<- hA] at a0 ha;rw[<- hB] at a1 hb;have b0:=r2.cell A (by simpa using ha);have b1:=r2.cell B (by simpa using hb);rw[Zfg ha] at b0;rw[Zfg hb] at b1;have fv:=r1.frozen;have fl:=r2.frozen;have gn:(k:Int)<d.vars.length:=by omega
 have gm:(k:Int)+1<d.vars.length:=by omega
 have nvl:gv≠s.lb:=fun e=>by have:=h.ownl;rw[<- e,g2] at this;cases this
 have nll:gl≠s.lb:=fun e=>by have:=h.ownl;rw[<- e,g3] at this;cases this
 have nvg:gv≠gl:=fun e=>by rw[e,g3] at g2;cases g2
 have nvs:gv≠sb:=fun e=>by have:=h.own;rw[<- e,g2] at this;cases this
 have nls:gl≠sb:=fun e=>by have:=h.own;rw[<- e,g3] at this;cases this
 obtain⟨LA,ga⟩:∃ L,L=d.level.getD A 0:=⟨_,rfl⟩;obtain⟨LB,g9⟩:∃ L,L=d.level.getD B 0:=⟨_,rfl⟩;have ge:Hid (∀ w1 w2:World,w1.heap=w.heap->w1.os=w.os->w1.tape=w.tape->w1.output=w.output->w2=((((w1.setCell ⟨gv,k,none⟩ (.int .i64 B)).setCell ⟨gv,k+1,none⟩ (.int .i64 A)).setCell ⟨gl,A,none⟩ (.int .i64 (k+1:Nat))).setCell ⟨gl,B,none⟩ (.int .i64 k))->Zal o w2 sb (Zeh d k) s/\Chg Zan o o w w2):=by
  refine Hd ?_;rintro w1 w2 e1 e2 e3 e4 rfl;have gj:w1.heap.size=w.heap.size:=by rw[e1]
  have gf:Below w.heap.size w w1:=⟨e2,e3,e4,by omega,fun k _=>by rw[e1]⟩;have gg:∀ g,g≠gv->g≠gl->((((w1.setCell ⟨gv,k,none⟩ (.int .i64 B)).setCell ⟨gv,k+1,none⟩ (.int .i64 A)).setCell ⟨gl,A,none⟩ (.int .i64 (k+1:Nat))).setCell ⟨gl,B,none⟩ (.int .i64 k)).heap[g]?=w.heap[g]?:=fun g n1 n2=>by
   rw[Zad n2,Zad n2,Zad n1,Zad n1,e1]
  have k1:∀ {g r},o g=some r->r ≠ .vars->r ≠ .level->((((w1.setCell ⟨gv,k,none⟩ (.int .i64 B)).setCell ⟨gv,k+1,none⟩ (.int .i64 A)).setCell ⟨gl,A,none⟩ (.int .i64 (k+1:Nat))).setCell ⟨gl,B,none⟩ (.int .i64 k)).heap[g]?=w.heap[g]?:=fun hg n1 n2=>gg _ (by rintro rfl;rw[g2] at hg;cases hg;exact n1 rfl) (by rintro rfl;rw[g3] at hg;cases hg;exact n2 rfl)
  have g7:=h.vars.keep (w':=w1) (fun g _=>by rw[e1]) (fun _ h=>h);rw[g5] at g7;have gb:=((((g7.stored k (.int .i64 B)).stored (k+1) (.int .i64 A)).setCell_other (p:=⟨gl,A,none⟩) (by rw[g3];simp) (.int .i64 (k+1:Nat))).setCell_other (p:=⟨gl,B,none⟩) (by rw[g3];simp) (.int .i64 k));have g8:=h.level.keep (w':=w1) (fun g _=>by rw[e1]) (fun _ h=>h);rw[g6] at g8;have gc:=(((g8.setCell_other (p:=⟨gv,k,none⟩) (by rw[g2];simp) (.int .i64 B)).setCell_other (p:=⟨gv,k+1,none⟩) (by rw[g2];simp) (.int .i64 A)).stored A (.int .i64 (k+1:Nat))).stored B (.int .i64 k)
  refine⟨⟨h.own,h.ownl,(k1 h.own (by simp) (by simp)).trans h.blk,(k1 h.ownl (by simp) (by simp)).trans h.lev,?_,?_,h.pool.keep (fun g r hg hr=>k1 hg (by rintro rfl;simp at hr) (by rintro rfl;simp at hr)) (fun _ _ h=>h),h.tabs.keep (fun g hg=>k1 hg (by simp) (by simp)) (fun _ h=>h),
   fun v hv=>(h.tab v hv).keep (fun g r hg hr=>k1 hg (by rintro rfl;simp at hr) (by rintro rfl;simp at hr)) (fun _ _ h=>h),h.counts.keep (fun g hg=>k1 hg (by simp) (by simp)) (fun _ h=>h),by simp[Zeh,h.len],by simp[Zeh,h.tlen]⟩,?_⟩
  . rw[g5];simp only[Zeh,List.length_set,List.map_set,<- hA,<- hB];exact gb
  . rw[g6];simp only[Zeh,List.length_set,List.map_set,<- hA,<- hB];exact gc
  . exact((((Chg.of_below gf Zan o).setCell (p:=⟨gv,k,none⟩) g2 (by simp[Zan]) _).setCell (p:=⟨gv,k+1,none⟩) g2 (by simp[Zan]) _).setCell (p:=⟨gl,A,none⟩) g3 (by simp[Zan]) _).setCell (p:=⟨gl,B,none⟩) g3 (by simp[Zan]) _
 rw[<- ga] at b0;rw[<- g9] at b1;have gp:(A:Int)<d.level.length:=by omega
 have go:(B:Int)<d.level.length:=by omega
 have gq:=Hd r1;have gr:=Hd r2;have gi:IntKind.i64.wrap ((k:Int)+1)=((k+1:Nat):Int):=by rw[IntWalk.i64_in _ (by omega)];rfl
 have gk:((k+1:Nat):Int)<d.vars.length:=by omega
 clear h g5 g6 g2 g3 hA hB ga g9 r1 r2 gd
 go_enter func190,ntmps190
 go_upto_region 0 with fail
 go_quiet (fail)
 go_upto_region 1 with fail;refine Zam (fun W:World=>W.cell? ⟨s.lb,0,none⟩=some (.slice (some ⟨gv,0,none⟩) d.vars.length cv)/\True) true 16 [(0,false),(1,false),(2,false),(3,false),(4,false),(5,false),(6,false),(7,false),(8,false),(9,false),(10,false),(11,false),(12,false),(13,false),(14,true),(15,false),(16,true)] (by kernel_rfl) (by kernel_rfl) ⟨d0,trivial⟩ ?_;simp only[planned,Zdx]
 iterate 14
  refine Zao rfl ?_;apply Exists.intro;refine⟨fun w' hw=>?_,?_⟩
  . obtain⟨h1,_⟩:=hw;go_simp;rfl
  simp only[Zai]
 refine Zk9 (w':=(w.drewN nq).drew.setCell ⟨gv,k,none⟩ (.int .i64 B)) rfl rfl (Zd7 (w:=(w.drewN nq).drew) Zon a0 (fv _) rfl rfl) ⟨Za0 (w:=(w.drewN nq).drew) d0 (.inl nvl),trivial⟩ ?_;simp only[Zai]
 iterate 1
  refine Zao rfl ?_;apply Exists.intro;refine⟨fun w' hw=>?_,?_⟩
  . obtain⟨h1,_⟩:=hw;go_simp;rfl
  simp only[Zai]
 refine Zdl (w':=((w.drewN nq).drew.setCell ⟨gv,k,none⟩ (.int .i64 B)).setCell ⟨gv,k+1,none⟩ (.int .i64 A)) rfl rfl (Zd7 Zon (Za0 (w:=(w.drewN nq).drew) a1 (.inr (by omega))) ((World.frozen?_setCell _ _ _ _).trans (fv _)) rfl rfl) ?_;simp only[Zai];obtain⟨w4,g4⟩:∃ w4,w4=((w.drewN nq).drew.setCell ⟨gv,k,none⟩ (.int .i64 B)).setCell ⟨gv,k+1,none⟩ (.int .i64 A):=⟨_,rfl⟩;have e1:w4.cell? ⟨s.lb,1,none⟩=some (.slice (some ⟨gl,0,none⟩) d.level.length cl):=by rw[g4];exact Za0 (Za0 (w:=(w.drewN nq).drew) d1 (.inl nvl)) (.inl nvl)
 have g0:w4.cell? ⟨gl,A,none⟩=some (.int .i64 LA):=by rw[g4];exact Za0 (Za0 (w:=(w.drewN nq).drew) b0 (.inl nvg)) (.inl nvg)
 have g1:w4.cell? ⟨gl,B,none⟩=some (.int .i64 LB):=by rw[g4];exact Za0 (Za0 (w:=(w.drewN nq).drew) b1 (.inl nvg)) (.inl nvg)
 have fl4:∀ j,w4.frozen? ⟨gl,j,none⟩=false:=fun j=>by rw[g4];exact(World.frozen?_setCell _ _ _ _).trans ((World.frozen?_setCell _ _ _ _).trans (fl j))
 have gh:=Hd g4;rw[<- g4];clear g4 a0 a1 b0 b1 d0 d1 fv fl;go_upto_region 2 with fail;refine Zam (fun W:World=>W.cell? ⟨s.lb,1,none⟩=some (.slice (some ⟨gl,0,none⟩) d.level.length cl)/\True) true 16 [(0,false),(1,false),(2,false),(3,false),(4,false),(5,false),(6,false),(7,false),(8,false),(9,false),(10,false),(11,false),(12,false),(13,false),(14,true),(15,false),(16,true)] (by kernel_rfl) (by kernel_rfl) ⟨e1,trivial⟩ ?_;simp only[planned,Zdx]
 iterate 14
  refine Zao rfl ?_;apply Exists.intro;refine⟨fun w' hw=>?_,?_⟩
  . obtain⟨h1,_⟩:=hw;go_simp;rfl
  simp only[Zai]
 refine Zk9 (w':=w4.drew.setCell ⟨gl,A,none⟩ (.int .i64 (k+1:Nat))) rfl rfl (Zd7 (w:=w4.drew) Zon g0 (fl4 _) rfl rfl) ⟨Za0 (w:=w4.drew) e1 (.inl nll),trivial⟩ ?_;simp only[Zai]
 iterate 1
  refine Zao rfl ?_;apply Exists.intro;refine⟨fun w' hw=>?_,?_⟩
  . obtain⟨h1,_⟩:=hw;go_simp;rfl
  simp only[Zai]
 have g1':∃ u,(w4.drew.setCell ⟨gl,A,none⟩ (.int .i64 (k+1:Nat))).cell? ⟨gl,B,none⟩=some u:=Zbd (w:=w4.drew) g1;obtain⟨u,g1'⟩:=g1';refine Zdl (w':=(w4.drew.setCell ⟨gl,A,none⟩ (.int .i64 (k+1:Nat))).setCell ⟨gl,B,none⟩ (.int .i64 k)) rfl rfl (Zd7 Zon g1' ((World.frozen?_setCell _ _ _ _).trans (fl4 _)) rfl rfl) ?_;simp only[Zai];go_wp2_with fail;go_end0;obtain⟨q1,q2⟩:=ge.out ((w.drewN nq).drew.drew) ((w4.drew.setCell ⟨gl,A,none⟩ (.int .i64 (k+1:Nat))).setCell ⟨gl,B,none⟩ (.int .i64 k)) rfl rfl rfl rfl (by rw[gh.out];rfl);exact⟨rfl,q1,q2⟩
end Go.Proofs.YtgmbklaolcmljaaGreat

namespace Go.Proofs.YtgmbklaolcmljaaGreat
open Go.Proofs.Tryz
section
variable {n:Nat}{lev:Nat->Nat}{N0:Nat->Option BN}{V0:Nat->BF}{x y:Nat}
def Zfl (lev:Nat->Nat)(x y:Nat):Nat->Nat:=fun v=>if v=x then lev y else if v=y then lev x else lev v
def isV (N:Nat->Option BN)(y e:Nat):Prop:=∃ c,N (e/2)=some c/\c.v=y
def Turns (N:Nat->Option BN)(x y:Nat)(i:Nat):Prop:=∃ b,N i=some b/\b.v=x/\(isV N y b.lo\/isV N y b.hi)
def lowE (n:Nat)(lev:Nat->Nat)(N:Nat->Option BN)(y e:Nat):Prop:=okE N e/\lev y<lvE n lev N e
def midE (n:Nat)(lev:Nat->Nat)(N0 N:Nat->Option BN)(x y e:Nat):Prop:=lowE n lev N0 y e\/∃ c,N (e/2)=some c/\c.v=x/\¬ Turns N0 x y (e/2)
structure Zfb (n:Nat)(lev:Nat->Nat)(N0:Nat->Option BN)(V0:Nat->BF)(x y:Nat)(done:Nat->Prop)(N:Nat->Option BN)(V:Nat->BF):Prop where
 n0:N 0=none
 ext:∀ i,(i=0\/∃ b,N0 i=some b)->V i=V0 i
 keep:∀ i b,N0 i=some b->¬ done i->N i=some b
 fresh:∀ i b,N i=some b->N0 i=none->b.v=x/\lowE n lev N0 y b.lo/\lowE n lev N0 y b.hi/\b.hi%2=0/\b.lo≠b.hi/\V i=iteF x (ef V0 b.hi) (ef V0 b.lo)
 dn:∀ i,done i->Turns N0 x y i/\∃ b,N i=some b/\b.v=y/\midE n lev N0 N x y b.lo/\midE n lev N0 N x y b.hi/\b.hi%2=0/\b.lo≠b.hi/\V0 i=iteF y (ef V b.hi) (ef V b.lo)
 xu:∀ i j b,N i=some b->N j=some b->b.v=x->¬ Turns N0 x y i->¬ Turns N0 x y j->i=j
theorem Zge {V:Nat->BF}(hext:∀ i,(i=0\/∃ b,N0 i=some b)->V i=V0 i){e:Nat}(h:okE N0 e):ef V e=ef V0 e:=by
 funext ρ;simp only[ef,hext _ h]
theorem Zfb.start (h:Dag n lev N0 V0)(x y:Nat):Zfb n lev N0 V0 x y (fun _=>False) N0 V0 :=
 ⟨h.none0,fun _ _=>rfl,fun _ _ h _=>h,fun i b hb hn=>by (rw[hn] at hb;cases hb),fun _ h=>h.elim,fun i j b hi hj _ _ _=>h.uniq i j b hi hj⟩
variable {done:Nat->Prop}{N:Nat->Option BN}{V:Nat->BF}
theorem Zfb.has (m:Zfb n lev N0 V0 x y done N V){i:Nat}{b:BN}(hb:N0 i=some b):∃ b',N i=some b':=by
 by_cases hd:done i
 . obtain⟨_,b',g0,_⟩:=m.dn i hd;exact⟨b',g0⟩
 . exact⟨b,m.keep i b hb hd⟩
theorem Zfb.add (m:Zfb n lev N0 V0 x y done N V){id:Nat}{b:BN}(hf:N id=none)(hid:id≠0)(hv:b.v=x)
 (hlo:lowE n lev N0 y b.lo) (hhi:lowE n lev N0 y b.hi) (hr:b.hi%2=0) (hne:b.lo≠b.hi) (hnew:∀ i,¬ Turns N0 x y i->N i≠some b) :
 Zfb n lev N0 V0 x y done (addN N id b) (addV V id b):=by
 have g8:N0 id=none:=by
  cases e:N0 id with
  | none=>rfl
  | some c=>obtain⟨b',g6⟩:=m.has e;rw[hf] at g6;cases g6
 have ne0:∀ i,(i=0\/∃ b,N0 i=some b)->i≠id:=by
  rintro i (rfl|⟨c,hc⟩)
  . exact Ne.symm hid
  . rintro rfl;rw[g8] at hc;cases hc
 have cs:∀ i c,addN N id b i=some c->(i=id/\c=b)\/(i≠id/\N i=some c):=by
  intro i c hx
  by_cases e:i=id
  . subst e;rw[Zbm] at hx;exact .inl ⟨rfl,(Option.some.inj hx).symm⟩
  . rw[Zay _ e] at hx;exact .inr ⟨e,hx⟩
 have g3:∀ i,(i=0\/∃ b,N0 i=some b)->addV V id b i=V0 i:=fun i hi=>by
  simp only[addV,if_neg (ne0 i hi)];exact m.ext i hi
 refine⟨by rw[Zay _ (Ne.symm hid)];exact m.n0,g3,?_,?_,?_,?_⟩
 . intro i c hc hd;rw[Zay _ (ne0 i (.inr ⟨c,hc⟩))];exact m.keep i c hc hd
 ·intro i c hc hn;rcases cs i c hc with ⟨e1,e2⟩|⟨g0,gc⟩
  ·subst e1;subst e2
   exact⟨hv,hlo,hhi,hr,hne,by simp only[addV,if_true,hv,Zge m.ext hlo.1,Zge m.ext hhi.1]⟩
  . obtain⟨h1,h2,h3,h4,h5,h6⟩:=m.fresh i c gc hn;exact⟨h1,h2,h3,h4,h5,by simp only[addV,if_neg g0];exact h6⟩
 ·intro i hd;obtain⟨hT,c,hc,h1,h2,h3,h4,h5,h6⟩:=m.dn i hd;have g1:∀ e,midE n lev N0 N x y e->midE n lev N0 (addN N id b) x y e/\ef (addV V id b) e=ef V e:=by
   rintro e (hl|⟨d,g4,ga,g9⟩)
   . exact⟨.inl hl,by rw[Zge g3 hl.1,Zge m.ext hl.1]⟩
   ·have g0:e/2≠id:=by rintro e';rw[e',hf] at g4;cases g4
    refine⟨.inr ⟨d,by rw[Zay _ g0];exact g4,ga,g9⟩,?_⟩;funext ρ;simp only[ef,addV,if_neg g0]
  have g7:i≠id:=ne0 i (.inr (by obtain⟨q,hq,_⟩:=hT;exact⟨q,hq⟩));exact⟨hT,c,by rw[Zay _ g7];exact hc,h1,(g1 _ h2).1,(g1 _ h3).1,h4,h5,by rw[(g1 _ h2).2,(g1 _ h3).2];exact h6⟩
 ·intro i j c hi hj gb ti tj;rcases cs i c hi with ⟨e1,e2⟩|⟨_,g5⟩
  ·rcases cs j c hj with ⟨e3,_⟩|⟨_,g2⟩
   . rw[e1,e3]
   . subst e2;exact absurd g2 (hnew j tj)
  ·rcases cs j c hj with ⟨_,e2⟩|⟨_,g2⟩
   . subst e2;exact absurd g5 (hnew i ti)
   . exact m.xu i j c g5 g2 gb ti tj
def setN (N:Nat->Option BN)(i:Nat)(b:BN):Nat->Option BN:=fun j=>if j=i then some b else N j
theorem Zfb.turn (m:Zfb n lev N0 V0 x y done N V)(hxy:x≠y){i lo hi:Nat}(hT:Turns N0 x y i)(hlo:midE n lev N0 N x y lo)(hhi:midE n lev N0 N x y hi)(hr:hi%2=0)(hne:lo≠hi)
 (hV:V0 i=iteF y (ef V hi) (ef V lo)):Zfb n lev N0 V0 x y (fun j=>done j\/j=i) (setN N i ⟨y,lo,hi⟩) V:=by
 obtain⟨b0,g3,ge,gd⟩:=hT;have hT:Turns N0 x y i:=⟨b0,g3,ge,gd⟩;have g9:i≠0:=by
  rintro rfl;obtain⟨b',g4⟩:=m.has g3;rw[m.n0] at g4;cases g4
 have cs:∀ j c,setN N i ⟨y,lo,hi⟩ j=some c->(j=i/\c=⟨y,lo,hi⟩)\/(j≠i/\N j=some c):=by
  intro j c hx
  by_cases e:j=i
  . subst e;simp only[setN,if_true,Option.some.injEq] at hx;exact .inl ⟨rfl,hx.symm⟩
  . simp only[setN,if_neg e] at hx;exact .inr ⟨e,hx⟩
 have g0:∀ e,midE n lev N0 N x y e->midE n lev N0 (setN N i ⟨y,lo,hi⟩) x y e:=by
  rintro e (hl|⟨d,gb,ga,g1⟩)
  . exact .inl hl
  ·have g5:e/2≠i:=by rintro e';rw[e'] at g1;exact g1 hT
   exact .inr ⟨d,by simp only[setN,if_neg g5];exact gb,ga,g1⟩
 refine⟨by simp only[setN,if_neg (Ne.symm g9)];exact m.n0,m.ext,?_,?_,?_,?_⟩
 ·intro j c hc hd;have g7:j≠i:=fun e=>hd (.inr e)
  simp only[setN,if_neg g7];exact m.keep j c hc (fun h=>hd (.inl h))
 ·intro j c hc hn;rcases cs j c hc with ⟨e1,_⟩|⟨_,gc⟩
  . subst e1;rw[g3] at hn;cases hn
  . exact m.fresh j c gc hn
 ·intro j hd
  by_cases e:j=i
  . subst e;exact⟨hT,⟨y,lo,hi⟩,by simp only[setN,if_true],rfl,g0 _ hlo,g0 _ hhi,hr,hne,hV⟩
  . obtain⟨gf,c,hc,h1,h2,h3,h4,h5,h6⟩:=m.dn j (hd.resolve_right e);exact⟨gf,c,by simp only[setN,if_neg e];exact hc,h1,g0 _ h2,g0 _ h3,h4,h5,h6⟩
 ·intro j k c hj hk g2 tj tk;rcases cs j c hj with ⟨e1,e2⟩|⟨_,g8⟩
  . subst e2;exact absurd g2.symm hxy
  ·rcases cs k c hk with ⟨e1,e2⟩|⟨_,g6⟩
   . subst e2;exact absurd g2.symm hxy
   . exact m.xu j k c g8 g6 g2 tj tk
theorem Zh3 (lev:Nat->Nat)(x y:Nat):Zfl lev x y x=lev y:=by simp[Zfl]
theorem Zh4 (lev:Nat->Nat){x y:Nat}(h:x≠y):Zfl lev x y y=lev x:=by simp[Zfl,Ne.symm h]
theorem Zlq (lev:Nat->Nat){x y v:Nat}(hx:v≠x)(hy:v≠y):Zfl lev x y v=lev v:=by simp[Zfl,hx,hy]
theorem Zxw {e:Nat}(hxl:lev x<lev y)(hl:lowE n lev N0 y e){c:BN}(hc:N0 (e/2)=some c):c.v≠x/\c.v≠y:=by
 have:=hl.2;simp only[lvE,hc] at this;exact⟨by rintro e;rw[e] at this;omega,by rintro e;rw[e] at this;omega⟩
theorem Zfb.final (h:Dag n lev N0 V0)(hx:x<n)(hy:y<n)(hl:lev y=lev x+1)(m:Zfb n lev N0 V0 x y done N V)(hall:∀ i,Turns N0 x y i->done i):Dag n (Zfl lev x y) N V:=by
 have g5:x≠y:=by rintro rfl;omega
 have gj:lev x<lev y:=by omega
 have kinds:∀ i b,N i=some b->(N0 i=none/\b.v=x/\lowE n lev N0 y b.lo/\lowE n lev N0 y b.hi/\b.hi%2=0/\b.lo≠b.hi/\V i=iteF x (ef V0 b.hi) (ef V0 b.lo)) \/
  (Turns N0 x y i/\b.v=y/\midE n lev N0 N x y b.lo/\midE n lev N0 N x y b.hi/\b.hi%2=0/\b.lo≠b.hi/\V0 i=iteF y (ef V b.hi) (ef V b.lo)) \/
  (N0 i=some b/\¬ Turns N0 x y i):=by
  intro i b hb;cases e:N0 i with
  | none=>exact .inl ⟨rfl,m.fresh i b hb e⟩
  | some c =>
    right
    by_cases hd:done i
    . obtain⟨hT,b',g4,rest⟩:=m.dn i hd;obtain rfl:b'=b:=Option.some.inj (g4.symm.trans hb);exact .inl ⟨hT,rest⟩
    . have:=m.keep i c e hd;obtain rfl:c=b:=Option.some.inj (this.symm.trans hb);exact .inr ⟨rfl,fun hT=>hd (hall i hT)⟩
 have low:∀ e,lowE n lev N0 y e->okE N e/\lvE n (Zfl lev x y) N e=lvE n lev N0 e/\ef V e=ef V0 e:=by
  intro e he;refine⟨?_,?_,Zge m.ext he.1⟩
  ·rcases he.1 with h0|⟨c,hc⟩
   . exact .inl h0
   . obtain⟨b',g4⟩:=m.has hc;exact .inr ⟨b',g4⟩
  ·rcases he.1 with h0|⟨c,hc⟩
   . simp only[lvE,h0,m.n0,h.none0]
   ·have ge:=Zxw gj he hc;have gi:¬ done (e/2):=fun hd=>by
     obtain⟨⟨q,hq,gb,_⟩,_⟩:=m.dn _ hd;rw[hc] at hq;cases hq;exact ge.1 gb
    simp only[lvE,m.keep _ _ hc gi,hc,Zlq lev ge.1 ge.2]
 have mid:∀ e,midE n lev N0 N x y e->okE N e/\lev x<lvE n (Zfl lev x y) N e:=by
  rintro e (he|⟨c,hc,g9,_⟩)
  . obtain⟨h1,h2,_⟩:=low e he;exact⟨h1,by rw[h2];have:=he.2;omega⟩
  . exact⟨.inr ⟨c,hc⟩,by simp only[lvE,hc,g9,Zh3];omega⟩
 have old:∀ i b e,N0 i=some b->¬ Turns N0 x y i->(e=b.lo\/e=b.hi)->okE N e/\Zfl lev x y b.v<lvE n (Zfl lev x y) N e/\ef V e=ef V0 e:=by
  intro i b e hb g0 he;have ho:okE N0 e:=by rcases he with rfl|rfl;exact h.okLo _ _ hb;exact h.okHi _ _ hb
  have g1:lev b.v<lvE n lev N0 e:=by rcases he with rfl|rfl;exact h.lvLo _ _ hb;exact h.lvHi _ _ hb
  have gh:b.v=x->¬ isV N0 y e:=fun g8 gg=>g0 ⟨b,hb,g8,by rcases he with rfl|rfl;exact .inl gg;exact .inr gg⟩
  refine⟨?_,?_,Zge m.ext ho⟩
  ·rcases ho with h0|⟨c,hc⟩
   . exact .inl h0
   . obtain⟨b',g4⟩:=m.has hc;exact .inr ⟨b',g4⟩
  ·by_cases g8:b.v=x
   ·have g7:lowE n lev N0 y e:=by
     refine⟨ho,?_⟩;rw[g8] at g1;rcases ho with h0|⟨c,hc⟩
     . simp only[lvE,h0,h.none0] at g1 ⊢;exact h.lt y hy
     ·simp only[lvE,hc] at g1 ⊢;have:c.v≠y:=fun e'=>gh g8 ⟨c,hc,e'⟩
      have h2:lev c.v≠lev y:=fun e'=>this (h.inj _ _ (h.var _ _ hc) hy e')
      omega
    rw[(low e g7).2.1,g8,Zh3];exact g7.2
   ·by_cases gf:b.v=y
    . have g7:lowE n lev N0 y e:=⟨ho,by rw[gf] at g1;exact g1⟩;rw[(low e g7).2.1,gf,Zh4 lev g5];have:=g7.2;omega
    ·rw[Zlq lev g8 gf];rcases ho with h0|⟨c,hc⟩
     . simp only[lvE,h0,m.n0];exact h.lt _ (h.var _ _ hb)
     ·simp only[lvE,hc] at g1;have gk:=h.var _ _ hc
      by_cases hd:done (e/2)
      ·obtain⟨⟨q,hq,gb,_⟩,b',g4,hb'y,_⟩:=m.dn _ hd;rw[hc] at hq;cases hq
       simp only[lvE,g4,hb'y,Zh4 lev g5];rw[gb] at g1;exact g1
      ·simp only[lvE,m.keep _ _ hc hd]
       by_cases g9:c.v=x
       . rw[g9,Zh3];rw[g9] at g1;omega
       ·by_cases gd:c.v=y
        ·rw[gd,Zh4 lev g5];rw[gd] at g1;have h2:lev b.v≠lev x:=fun e'=>g8 (h.inj _ _ (h.var _ _ hb) hx e')
         omega
        . rw[Zlq lev g9 gd];exact g1
 refine⟨fun ρ=>by rw[m.ext 0 (.inl rfl)];exact h.one ρ,m.n0,?_,?_,?_,?_,?_,?_,?_,?_,?_,?_,?_⟩
 ·intro i b hb;rcases kinds i b hb with ⟨_,hv,_⟩|⟨_,hv,_⟩|⟨h0,_⟩
  . rw[hv];exact hx
  . rw[hv];exact hy
  . exact h.var _ _ h0
 ·intro u v hu hv he;have hs:∀ u,u<n->Zfl lev x y u=lev (if u=x then y else if u=y then x else u):=by
   intro u _;simp only[Zfl];(split;· rfl);split<;>rfl
  have hb:∀ u,u<n->(if u=x then y else if u=y then x else u)<n:=by
   intro u hu;(split;· exact hy);(split;· exact hx);exact hu
  rw[hs u hu,hs v hv] at he;have:=h.inj _ _ (hb u hu) (hb v hv) he
  by_cases a:u=x
  ·rw[if_pos a] at this
   by_cases b:v=x
   . rw[a,b]
   ·rw[if_neg b] at this
    by_cases c:v=y
    . rw[if_pos c] at this;exact absurd this.symm g5
    . rw[if_neg c] at this;exact absurd this.symm c
  ·rw[if_neg a] at this
   by_cases b:v=x
   ·rw[if_pos b] at this
    by_cases c:u=y
    . rw[if_pos c] at this;exact absurd this g5
    . rw[if_neg c] at this;exact absurd this c
   ·rw[if_neg b] at this
    by_cases c:u=y
    ·rw[if_pos c] at this
     by_cases d:v=y
     . rw[c,d]
     . rw[if_neg d] at this;exact absurd this.symm b
    ·rw[if_neg c] at this
     by_cases d:v=y
     . rw[if_pos d] at this;exact absurd this a
     . rw[if_neg d] at this;exact this
 ·intro v hv;simp only[Zfl];split
  . exact h.lt y hy
  ·split
   . exact h.lt x hx
   . exact h.lt v hv
 ·intro i b hb;rcases kinds i b hb with ⟨_,_,g2,_⟩|⟨_,_,g2,_⟩|⟨h0,g0⟩
  . exact(low _ g2).1
  . exact(mid _ g2).1
  . exact(old i b b.lo h0 g0 (.inl rfl)).1
 ·intro i b hb;rcases kinds i b hb with ⟨_,_,_,g3,_⟩|⟨_,_,_,g3,_⟩|⟨h0,g0⟩
  . exact(low _ g3).1
  . exact(mid _ g3).1
  . exact(old i b b.hi h0 g0 (.inr rfl)).1
 ·intro i b hb;rcases kinds i b hb with ⟨_,hv,g2,_⟩|⟨_,hv,g2,_⟩|⟨h0,g0⟩
  . rw[hv,Zh3,(low _ g2).2.1];exact g2.2
  . rw[hv,Zh4 lev g5];exact(mid _ g2).2
  . exact(old i b b.lo h0 g0 (.inl rfl)).2.1
 ·intro i b hb;rcases kinds i b hb with ⟨_,hv,_,g3,_⟩|⟨_,hv,_,g3,_⟩|⟨h0,g0⟩
  . rw[hv,Zh3,(low _ g3).2.1];exact g3.2
  . rw[hv,Zh4 lev g5];exact(mid _ g3).2
  . exact(old i b b.hi h0 g0 (.inr rfl)).2.1
 ·intro i b hb;rcases kinds i b hb with ⟨_,_,_,_,hr,_⟩|⟨_,_,_,_,hr,_⟩|⟨h0,_⟩
  . exact hr
  . exact hr
  . exact h.reg _ _ h0
 ·intro i b hb;rcases kinds i b hb with ⟨_,_,_,_,_,gc,_⟩|⟨_,_,_,_,_,gc,_⟩|⟨h0,_⟩
  . exact gc
  . exact gc
  . exact h.ne _ _ h0
 ·intro i j b hi hj;have yFn:∀ i,N i=some b->b.v=y->(∃ c,N0 i=some c)/\V0 i=iteF y (ef V b.hi) (ef V b.lo):=by
   intro i hi hv;rcases kinds i b hi with ⟨_,g6,_⟩|⟨⟨q,hq,_⟩,_,_,_,_,_,hV⟩|⟨h0,g0⟩
   . rw[hv] at g6;exact absurd g6.symm g5
   . exact⟨⟨q,hq⟩,hV⟩
   . refine⟨⟨b,h0⟩,?_⟩;rw[(old i b b.lo h0 g0 (.inl rfl)).2.2,(old i b b.hi h0 g0 (.inr rfl)).2.2,<- hv];exact h.eqn _ _ h0
  have xT:b.v=x->∀ i,N i=some b->¬ Turns N0 x y i:=by
   intro hv i hi hT;obtain⟨_,b',g4,hb'y,_⟩:=m.dn i (hall i hT);rw[hi] at g4;cases g4
   rw[hv] at hb'y;exact g5 hb'y
  by_cases g6:b.v=x
  . exact m.xu i j b hi hj g6 (xT g6 i hi) (xT g6 j hj)
  ·by_cases ga:b.v=y
   ·obtain⟨⟨c,hc⟩,e1⟩:=yFn i hi ga;obtain⟨⟨d,hd⟩,e2⟩:=yFn j hj ga;have:2*i=2*j:=by
     refine h.canon (Zgp hc) (Zgp hd) ?_;funext ρ;have h1:2*i/2=i:=by omega
     have h2:2*j/2=j:=by omega
     have h3:2*i%2=0:=by omega
     have h4:2*j%2=0:=by omega
     simp only[ef,h1,h2,h3,h4,e1,e2]
    omega
   ·have o:∀ i,N i=some b->N0 i=some b:=by
     intro i hi;rcases kinds i b hi with ⟨_,hv,_⟩|⟨_,hv,_⟩|⟨h0,_⟩
     . exact absurd hv g6
     . exact absurd hv ga
     . exact h0
    exact h.uniq i j b (o i hi) (o j hj)
 ·intro i b hb;rcases kinds i b hb with ⟨_,hv,g2,g3,_,_,hV⟩|⟨hT,hv,_,_,_,_,hV⟩|⟨h0,g0⟩
  . rw[hV,hv,(low _ g2).2.2,(low _ g3).2.2]
  . obtain⟨q,hq,_⟩:=hT;rw[m.ext i (.inr ⟨q,hq⟩),hV,hv]
  . rw[m.ext i (.inr ⟨b,h0⟩),(old i b b.lo h0 g0 (.inl rfl)).2.2,(old i b b.hi h0 g0 (.inr rfl)).2.2];exact h.eqn _ _ h0
end
end Go.Proofs.YtgmbklaolcmljaaGreat

namespace Go.Proofs.YtgmbklaolcmljaaGreat
open Go.Proofs.Tryz
open Go.RowKit Go.Shelf
structure TN where
 n:RN
 ll:Nat
 lh:Nat
 hl:Nat
 hh:Nat
def tnV (t:TN):List Value:=rnV t.n++[.int .i64 t.ll,.int .i64 t.lh,.int .i64 t.hl,.int .i64 t.hh]
def tnOf (d:Zac)(y:Nat)(i:Nat):TN:=⟨d.pool.nd i,(cofs d (d.pool.nd i).lo y).1,(cofs d (d.pool.nd i).lo y).2,(cofs d (d.pool.nd i).hi y).1,(cofs d (d.pool.nd i).hi y).2⟩
def Ze5 (d:Zac)(y:Nat)(i:Nat):Bool:=decide ((tnOf d y i).ll≠(tnOf d y i).lh\/(tnOf d y i).hl≠(tnOf d y i).hh)
theorem Zwx {d:Zac}{V:Nat->BF}(hk:Zaj d V)(e y:Nat):(cofs d e y).1≠(cofs d e y).2↔isV (Zaa d) y e:=by
 unfold cofs isV;cases hb:Zaa d (e/2) with
 | none=>simp
 | some b =>
   by_cases h:b.v=y
   ·have h1:(b.v:Int)=(y:Int):=by omega
    simp only[h1,if_true];constructor
    . intro _;exact⟨b,rfl,h⟩
    . intro _;exact Zj6 (hk.dag.ne _ _ hb)
   ·have h1:¬ (b.v:Int)=(y:Int):=by omega
    simp only[h1,if_false];constructor
    . intro hh;exact(hh rfl).elim
    . rintro⟨c,hc,hv⟩;cases hc;exact(h hv).elim
theorem Zjg {d:Zac}{V:Nat->BF}(hk:Zaj d V){x y i:Nat}{b:BN}(hb:Zaa d i=some b)(hx:b.v=x):Ze5 d y i=true↔Turns (Zaa d) x y i:=by
 obtain⟨_,_,he⟩:=Zax hb;have g0:bnOf (d.pool.nd i)=b:=by rw[<- (Zax hb).2.1];exact he
 have e1:(d.pool.nd i).lo=b.lo:=by rw[<- g0];rfl
 have e2:(d.pool.nd i).hi=b.hi:=by rw[<- g0];rfl
 unfold Ze5 tnOf;rw[decide_eq_true_eq,e1,e2,Zwx hk,Zwx hk];constructor
 . intro h;exact⟨b,hb,hx,h⟩
 . rintro⟨c,hc,_,h⟩;rw[hb] at hc;cases hc;exact h
open Go.RowKit
noncomputable def rkSw (n:Nat)(lev:Nat->Nat)(N0:Nat->Option BN)(x y:Nat)(N:Nat->Option BN)(i:Nat):Nat :=
 open Classical in if Turns N0 x y i then 2 * (n - lev x) else match N i with
  | none=>0
  | some b=>if b.v=x then 2*(n-lev x)-1 else 2*(n-lev b.v)
section
variable {n:Nat}{lev:Nat->Nat}{N0:Nat->Option BN}{V0:Nat->BF}{x y:Nat}{done:Nat->Prop}{N:Nat->Option BN}{V:Nat->BF}
theorem Zim {i:Nat}(h:Turns N0 x y i):rkSw n lev N0 x y N i=2*(n-lev x):=by unfold rkSw;rw[if_pos h]
theorem Zqs {i:Nat}{b:BN}(h:¬ Turns N0 x y i)(hb:N i=some b)(hx:b.v=x):rkSw n lev N0 x y N i=2*(n-lev x)-1:=by unfold rkSw;rw[if_neg h,hb];simp[hx]
theorem Yb7 {i:Nat}{b:BN}(h:¬ Turns N0 x y i)(hb:N i=some b)(hx:b.v≠x):rkSw n lev N0 x y N i=2*(n-lev b.v):=by unfold rkSw;rw[if_neg h,hb];simp[hx]
theorem Zsn {i:Nat}{b:BN}(hb:N0 i=some b)(h:Turns N0 x y i):b.v=x:=by
 obtain⟨c,hc,hx,_⟩:=h;rw[hb] at hc;cases hc;exact hx
theorem Zyn (m:Zfb n lev N0 V0 x y done N V){e:Nat}{c0 c:BN}(h0:N0 (e/2)=some c0)(hc:N (e/2)=some c) :
 (Turns N0 x y (e/2)/\c0.v=x/\rkSw n lev N0 x y N (e/2)=2*(n-lev x))\/(¬ Turns N0 x y (e/2)/\c=c0/\rkSw n lev N0 x y N (e/2)<=2*(n-lev c0.v)/\(c0.v=x->rkSw n lev N0 x y N (e/2)=2*(n-lev x)-1)):=by
 by_cases hT:Turns N0 x y (e/2)
 . exact .inl ⟨hT,Zsn h0 hT,Zim hT⟩
 ·have hk:=m.keep _ _ h0 (fun hd=>hT (m.dn _ hd).1);rw[hc] at hk;cases hk;refine .inr ⟨hT,rfl,?_,fun hx=>Zqs hT hc hx⟩
  by_cases hx:c0.v=x
  . rw[Zqs hT hc hx,hx];omega
  . rw[Yb7 hT hc hx];exact Nat.le_refl _
theorem Zi6 (m:Zfb n lev N0 V0 x y done N V){e:Nat}(h:okE N0 e):okE N e:=by
 rcases h with h|⟨c,hc⟩
 . exact .inl h
 . obtain⟨b,hb⟩:=m.has hc;exact .inr ⟨b,hb⟩
theorem Ztd (m:Zfb n lev N0 V0 x y done N V){e:Nat}(h:midE n lev N0 N x y e):okE N e:=by
 rcases h with h|⟨c,hc,_⟩
 . exact Zi6 m h.1
 . exact .inr ⟨c,hc⟩
theorem Zp7 {e:Nat}{c:BN}(h:N0 (e/2)=some c):lvE n lev N0 e=lev c.v:=by unfold lvE;rw[h]
theorem Yb8 (h:Dag n lev N0 V0)(hx:x<n)(hl:lev y=lev x+1)(m:Zfb n lev N0 V0 x y done N V){e:Nat}{c:BN}(he:lowE n lev N0 y e)(hc:N (e/2)=some c):rkSw n lev N0 x y N (e/2)+3<=2*(n-lev x):=by
 have g1:=h.lt x hx;rcases he.1 with h0|⟨c0,g0⟩
 . rw[h0,m.n0] at hc;cases hc
 ·have h1:=he.2;rw[Zp7 g0] at h1;have h2:=h.lt _ (h.var _ _ g0);rcases Zyn m g0 hc with ⟨_,hv,_⟩|⟨_,_,h3,_⟩
  . rw[hv] at h1;omega
  . omega
theorem Yb9 (h:Dag n lev N0 V0)(hx:x<n)(hl:lev y=lev x+1)(m:Zfb n lev N0 V0 x y done N V){e:Nat}{c:BN}(he:midE n lev N0 N x y e)(hc:N (e/2)=some c):rkSw n lev N0 x y N (e/2)+1<=2*(n-lev x):=by
 have g1:=h.lt x hx;rcases he with he|⟨c',g0,hv,hT⟩
 . have:=Yb8 h hx hl m he hc;omega
 . rw[Zqs hT g0 hv];omega
theorem Yds (h:Dag n lev N0 V0)(hx:x<n)(hl:lev y=lev x+1)(m:Zfb n lev N0 V0 x y done N V):Acy N (rkSw n lev N0 x y N):=by
 have g6:=h.lt x hx;have edge:∀ i b e,N i=some b->(e=b.lo\/e=b.hi)->okE N e/\∀ c,N (e/2)=some c->rkSw n lev N0 x y N (e/2)<rkSw n lev N0 x y N i:=by
  intro i b e hb he;cases h0:N0 i with
  | none =>
    obtain⟨hv,h1,h2,_⟩:=m.fresh i b hb h0;have g2:lowE n lev N0 y e:=by rcases he with rfl|rfl;exact h1;exact h2
    have hT:¬ Turns N0 x y i:=fun⟨q,hq,_⟩=>by rw[h0] at hq;cases hq
    refine⟨Zi6 m g2.1,fun c hc=>?_⟩;have:=Yb8 h hx hl m g2 hc;rw[Zqs hT hb hv];omega
  | some b0 =>
    by_cases hd:done i
    ·obtain⟨hT,b',g4,_,h1,h2,_⟩:=m.dn i hd;rw[hb] at g4;cases g4
     have hm:midE n lev N0 N x y e:=by rcases he with rfl|rfl;exact h1;exact h2
     refine⟨Ztd m hm,fun c hc=>?_⟩;have:=Yb9 h hx hl m hm hc;rw[Zim hT];omega
    ·have hk:=m.keep i b0 h0 hd;rw[hb] at hk;cases hk
     have ho:okE N0 e:=by rcases he with rfl|rfl;exact h.okLo _ _ h0;exact h.okHi _ _ h0
     have g0:lev b.v<lvE n lev N0 e:=by rcases he with rfl|rfl;exact h.lvLo _ _ h0;exact h.lvHi _ _ h0
     refine⟨Zi6 m ho,fun c hc=>?_⟩;have g9:=h.lt _ (h.var _ _ h0);rcases ho with hz|⟨c0,g3⟩
     . rw[hz,m.n0] at hc;cases hc
     ·rw[Zp7 g3] at g0;have g8:=h.lt _ (h.var _ _ g3);have hi:(Turns N0 x y i/\rkSw n lev N0 x y N i=2*(n-lev x)/\b.v=x)\/(¬ Turns N0 x y i/\b.v=x/\rkSw n lev N0 x y N i=2*(n-lev x)-1)\/(¬ Turns N0 x y i/\b.v≠x/\rkSw n lev N0 x y N i=2*(n-lev b.v)):=by
       by_cases hT:Turns N0 x y i
       . exact .inl ⟨hT,Zim hT,Zsn h0 hT⟩
       ·by_cases g1:b.v=x
        . exact .inr (.inl ⟨hT,g1,Zqs hT hb g1⟩)
        . exact .inr (.inr ⟨hT,g1,Yb7 hT hb g1⟩)
      rcases Zyn m g3 hc with ⟨_,g5,hr⟩|⟨_,_,hr,g7⟩
      ·rw[hr];rw[g5] at g0;rcases hi with ⟨_,_,hv⟩|⟨_,hv,_⟩|⟨_,_,h2⟩
       . rw[hv] at g0;omega
       . rw[hv] at g0;omega
       . rw[h2];omega
      ·rcases hi with ⟨_,h2,hv⟩|⟨_,hv,h2⟩|⟨_,hv,h2⟩
       . rw[h2];rw[hv] at g0;omega
       . rw[h2];rw[hv] at g0;omega
       . rw[h2];omega
 exact⟨m.n0,fun i b hb=>(edge i b _ hb (.inl rfl)).1,fun i b hb=>(edge i b _ hb (.inr rfl)).1,fun i b c hb hc=>(edge i b _ hb (.inl rfl)).2 c hc,fun i b c hb hc=>(edge i b _ hb (.inr rfl)).2 c hc⟩
end
open Go.RowKit
theorem Zuu {α:Type}[DecidableEq α]{l:List α}(hn:l.Nodup){κ:α}(hk:κ∈l){p q:α->Bool}(hp:p κ=false)(hq:∀ a,q a=(p a||decide (a=κ))):(l.filter q).length=(l.filter p).length+1:=by
 induction l with
 | nil=>cases hk
 | cons a l ih =>
   rw[List.nodup_cons] at hn;have g0:=hq a
   by_cases e:a=κ
   ·subst e;have g2:∀ b∈l,b≠a:=fun b hb e=>hn.1 (e ▸ hb)
    have hl:l.filter q=l.filter p:=List.filter_congr fun b hb=>by rw[hq b];simp[g2 b hb]
    simp only[List.filter_cons,g0,hp,hl];simp
   ·have g3:κ∈l:=by
     rcases List.mem_cons.1 hk with h|h
     . exact(e h.symm).elim
     . exact h
    have:=ih hn.2 g3;have g1:q a=p a:=by rw[g0];simp[e]
    simp only[List.filter_cons,g1];split
    . simp[this]
    . exact this
structure Zbk (d0:Zac)(V0:Nat->BF)(k x y:Nat)(Wt:List (Nat×Nat))(E:Nat->Int)(done:Nat->Prop)(d:Zac)(V:Nat->BF):Prop where
 mid:Zfb d0.vars.length (levN d0) (Zaa d0) V0 x y done (Zaa d) V
 vars:d.vars=(Zeh d0 k).vars
 level:d.level=(Zeh d0 k).level
 room:d.pool.room=d0.pool.room
 ext:Zat d=Zat d0
 live:Zb3 d E
 tabO:∀ v,v<d0.vars.length->v≠x->∀ lo hi id,d.tab v (lo,hi)=some id↔Zaa d id=some ⟨v,lo,hi⟩
 tabX:∀ lo hi id,d.tab x (lo,hi)=some id↔Zaa d id=some ⟨x,lo,hi⟩/\¬ Turns (Zaa d0) x y id
 clen:d.counts.length<=1048578
 pos:∀ i,Turns (Zaa d0) x y i->0<Zas d i
 many:d.pool.many=d0.pool.many+(Wt.filter fun κ=>(d.tab x κ).isSome).length
section
variable {d0 d d':Zac}{V0 V:Nat->BF}{k x y:Nat}{Wt:List (Nat×Nat)}{E:Nat->Int}{done:Nat->Prop}
theorem Zbk.has0 (m:Zbk d0 V0 k x y Wt E done d V){i:Nat}(h:Zaa d i=none):Zaa d0 i=none:=by
 cases e:Zaa d0 i with
 | none=>rfl
 | some c=>obtain⟨b',g0⟩:=m.mid.has e;rw[h] at g0;cases g0
theorem Zbk.add {id lo hi:Nat}(m:Zbk d0 V0 k x y Wt (Zat d0) done d V)(r:Zki d d' id x lo hi)(hlo:lowE d0.vars.length (levN d0) (Zaa d0) y lo)(hhi:lowE d0.vars.length (levN d0) (Zaa d0) y hi)(hr:hi%2=0)(hne:lo≠hi)
 (ht:d.tab x (lo,hi)=none) (hW:(lo,hi)∈Wt) (hWn:Wt.Nodup):Zbk d0 V0 k x y Wt (Zat d0) done d' (addV V id ⟨x,lo,hi⟩):=by
 have hid:id≠0:=by have:=r.pos;omega
 have g2:∀ i,¬ Turns (Zaa d0) x y i->Zaa d i≠some ⟨x,lo,hi⟩:=fun i hT e=>by rw[(m.tabX lo hi i).2 ⟨e,hT⟩] at ht;cases ht
 have g6:=m.mid.add r.none hid rfl hlo hhi hr hne g2;have h0:=m.has0 r.none;have g4:¬ Turns (Zaa d0) x y id:=fun⟨q,hq,_⟩=>by rw[h0] at hq;cases hq
 have g3:Zat d'=Zat d0:=by
  rw[r.ext];funext i
  by_cases e:i=id
  . subst e;simp[Zek h0]
  . simp only[if_neg e,m.ext]
 have g0:=r.live;rw[g3] at g0;refine⟨by rw[r.nodes];exact g6,r.vars.trans m.vars,r.level.trans m.level,r.room.trans m.room,g3,g0,fun v hv g1 lo' g5 i=>?_,fun lo' g5 i=>?_,r.clen,fun i hT=>?_,?_⟩
 ·rw[r.tab,r.nodes];dsimp only;rw[if_neg g1,m.tabO v hv g1]
  by_cases e4:i=id
  ·subst e4;rw[Zbm,r.none];constructor
   . intro e5;cases e5
   . intro e5;cases e5;exact absurd rfl g1
  . rw[Zay _ e4]
 ·rw[r.tab,r.nodes];dsimp only;rw[if_pos rfl];unfold putF
  by_cases e2:(lo',g5)=(lo,hi)
  ·cases e2;rw[if_pos rfl];constructor
   . intro e3;cases e3;rw[Zbm];exact⟨rfl,g4⟩
   ·rintro⟨e3,e5⟩
    by_cases e4:i=id
    . rw[e4]
    . rw[Zay _ e4] at e3;exact absurd e3 (g2 i e5)
  ·rw[if_neg e2,m.tabX]
   by_cases e4:i=id
   ·subst e4;rw[Zbm,r.none];constructor
    . rintro⟨e5,_⟩;cases e5
    . rintro⟨e5,_⟩;cases e5;exact absurd rfl e2
   . rw[Zay _ e4]
 . rw[r.cnt];unfold setC;rw[if_neg (fun e=>g4 (by rw[<- e];exact hT))];exact m.pos i hT
 ·rw[r.many,m.many];have e1:(Wt.filter fun κ=>(d'.tab x κ).isSome).length=(Wt.filter fun κ=>(d.tab x κ).isSome).length+1:=by
   refine Zuu hWn hW (by rw[ht];rfl) fun κ=>?_
   rw[r.tab];dsimp only;rw[if_pos rfl];unfold putF
   by_cases e:κ=(lo,hi)
   . simp[e]
   . simp[e]
  rw[e1];omega
theorem Zbk.counts {E':Nat->Int}{cs:List Nat}{dd mm:Nat}(m:Zbk d0 V0 k x y Wt E done d V)(hl:Zb3 (d.cd cs dd) E')(hlen:cs.length=d.counts.length)(hsame:∀ i,mm<=rkSw d0.vars.length (levN d0) (Zaa d0) x y (Zaa d) i->cs.getD i 0=d.counts.getD i 0)(hm:mm<=2*(d0.vars.length-levN d0 x)) :
 Zbk d0 V0 k x y Wt E' done (d.cd cs dd) V :=
 ⟨m.mid,m.vars,m.level,m.room,m.ext,hl,m.tabO,m.tabX,by show cs.length<=_;rw[hlen];exact m.clen,fun i hT=>by
  have:=hsame i (by rw[Zim hT];exact hm)
  show 0<cs.getD i 0
  rw[this];exact m.pos i hT,m.many⟩
theorem Zbk.fresh_y (m:Zbk d0 V0 k x y Wt E done d V)(hk:Dag d0.vars.length (levN d0) (Zaa d0) V0)(hxy:x≠y)(hy:y<d0.vars.length){i lo hi:Nat}(hT:Turns (Zaa d0) x y i)(hd:¬ done i)(hV:V0 i=iteF y (ef V hi) (ef V lo)):d.tab y (lo,hi)=none:=by
 cases e:d.tab y (lo,hi) with
 | none=>rfl
 | some j =>
   exfalso;have hj:=(m.tabO y hy (Ne.symm hxy) lo hi j).1 e;obtain⟨b,hb,g3,g6⟩:=hT;have same:∀ j',(∃ c,Zaa d0 j'=some c)->V0 j'=V0 i->j'=i:=by
    rintro j' ⟨c,hc⟩ g4;have:=hk.canon (Zgp hc) (Zgp hb) (by funext ρ;simp only[ef];rw[show 2*j'/2=j' by omega,show 2*i/2=i by omega,g4,show 2*j'%2=0 by omega,show 2*i%2=0 by omega]);omega
   by_cases g0:done j
   . obtain⟨⟨q,hq,g5,_⟩,c,hc,_,_,_,_,_,g1⟩:=m.mid.dn j g0;rw[hj] at hc;cases hc;have:=same j ⟨q,hq⟩ (g1.trans hV.symm);rw[this] at g0;exact hd g0
   ·cases h0:Zaa d0 j with
    | none =>
      have:=(m.mid.fresh j _ hj h0).1;exact hxy this.symm
    | some c =>
      have g2:=m.mid.keep j c h0 g0;rw[hj] at g2;cases g2;have g1:V0 j=iteF y (ef V0 hi) (ef V0 lo):=hk.eqn _ _ h0;have e1:=Zge m.mid.ext (hk.okLo _ _ h0);have e2:=Zge m.mid.ext (hk.okHi _ _ h0);dsimp only at e1 e2;rw[<- e1,<- e2] at g1;have:=same j ⟨_,h0⟩ (g1.trans hV.symm);subst this;rw[hb] at h0;cases h0;exact hxy g3.symm
end
open Go.RowKit
theorem Zsz {V:Nat->BF}{id v lo hi:Nat}(h:V id=iteF v (ef V (eflip hi (eneg hi))) (ef V (eflip lo (eneg hi)))):ef V (eflip (2*id) (eneg hi))=iteF v (ef V hi) (ef V lo):=by
 funext ρ;rw[Zcz];have e0:ef V (2*id) ρ=V id ρ:=by unfold ef;rw[show 2*id/2=id by omega,show 2*id%2=0 by omega];simp
 rw[e0,h];unfold iteF;split<;>rw[Zcz]<;>cases eneg hi<;>simp
section
variable {d0 d d':Zac}{V0 V:Nat->BF}{k x y:Nat}{Wt:List (Nat×Nat)}{E:Nat->Int}{done:Nat->Prop}
theorem Zbk.valX (m:Zbk d0 V0 k x y Wt E done d V)(hk:Dag d0.vars.length (levN d0) (Zaa d0) V0){id a b:Nat}(hb:Zaa d id=some ⟨x,a,b⟩)(hT:¬ Turns (Zaa d0) x y id)(ha:lowE d0.vars.length (levN d0) (Zaa d0) y a)(hbb:lowE d0.vars.length (levN d0) (Zaa d0) y b):V id=iteF x (ef V b) (ef V a):=by
 have e1:=Zge m.mid.ext ha.1;have e2:=Zge m.mid.ext hbb.1;rw[e1,e2];cases h0:Zaa d0 id with
 | none=>exact(m.mid.fresh id _ hb h0).2.2.2.2.2
 | some c =>
   have g0:=m.mid.keep id c h0 (fun hd=>hT (m.mid.dn _ hd).1);rw[hb] at g0;cases g0;rw[m.mid.ext id (.inr ⟨_,h0⟩)];exact hk.eqn _ _ h0
theorem Zc7 {n:Nat}{lev:Nat->Nat}{N:Nat->Option BN}{y e:Nat}{b:Bool}(h:lowE n lev N y e):lowE n lev N y (eflip e b):=⟨Zd6 h.1,by rw[Zd5];exact h.2⟩
def bkey (lo hi:Nat):Nat×Nat:=(eflip lo (eneg hi),eflip hi (eneg hi))
structure Zf6 (d0:Zac)(V0:Nat->BF)(k x y:Nat)(Wt:List (Nat×Nat))(done:Nat->Prop)(d:Zac)(V:Nat->BF)(lo hi:Nat)(r:Nat)(d':Zac)(V':Nat->BF):Prop where
 mid:Zbk d0 V0 k x y Wt (Zat d0) done d' V'
 edge:midE d0.vars.length (levN d0) (Zaa d0) (Zaa d') x y r
 val:ef V' r=iteF x (ef V0 hi) (ef V0 lo)
 reg:hi%2=0->r%2=0
 keep:∀ e,midE d0.vars.length (levN d0) (Zaa d0) (Zaa d) x y e->midE d0.vars.length (levN d0) (Zaa d0) (Zaa d') x y e/\ef V' e=ef V e
theorem Zpl (id:Nat)(hi:Nat)(h:hi%2=0):eflip (2*id) (eneg hi)%2=0:=by
 unfold eneg eflip;have:(hi%2 == 1)=false:=by rw[h];rfl
 rw[this];simp
theorem Zug (m:Zbk d0 V0 k x y Wt (Zat d0) done d V){lo:Nat}(hlo:lowE d0.vars.length (levN d0) (Zaa d0) y lo):Zf6 d0 V0 k x y Wt done d V lo lo lo d V :=
 ⟨m,.inl hlo,by rw[Zge m.mid.ext hlo.1];funext ρ;unfold iteF;split<;>rfl,fun h=>h,fun e he=>⟨he,rfl⟩⟩
theorem Zrg (m:Zbk d0 V0 k x y Wt (Zat d0) done d V)(hk:Dag d0.vars.length (levN d0) (Zaa d0) V0){lo hi id:Nat}(hlo:lowE d0.vars.length (levN d0) (Zaa d0) y lo)(hhi:lowE d0.vars.length (levN d0) (Zaa d0) y hi)(ht:d.tab x (bkey lo hi)=some id) :
 Zf6 d0 V0 k x y Wt done d V lo hi (eflip (2*id) (eneg hi)) d V:=by
 obtain⟨hb,hT⟩:=(m.tabX _ _ id).1 ht;refine⟨m,.inr ⟨_,by rw[Zco,show 2*id/2=id by omega];exact hb,rfl,by rw[Zco,show 2*id/2=id by omega];exact hT⟩,?_,Zpl id hi,fun e he=>⟨he,rfl⟩⟩;rw[Zsz (m.valX hk hb hT (Zc7 hlo) (Zc7 hhi)),Zge m.mid.ext hlo.1,Zge m.mid.ext hhi.1]
theorem Zwh (m:Zbk d0 V0 k x y Wt (Zat d0) done d V)(hk:Dag d0.vars.length (levN d0) (Zaa d0) V0){lo hi id:Nat}(hlo:lowE d0.vars.length (levN d0) (Zaa d0) y lo)(hhi:lowE d0.vars.length (levN d0) (Zaa d0) y hi)(hne:lo≠hi)
 (ht:d.tab x (bkey lo hi)=none) (r:Zki d d' id x (bkey lo hi).1 (bkey lo hi).2) (hW:bkey lo hi∈Wt) (hWn:Wt.Nodup) :
 Zf6 d0 V0 k x y Wt done d V lo hi (eflip (2*id) (eneg hi)) d' (addV V id ⟨x,(bkey lo hi).1,(bkey lo hi).2⟩):=by
 have hid:id≠0:=by have:=r.pos;omega
 have m':=m.add r (Zc7 hlo) (Zc7 hhi) (Zmn hi) (Zj6 hne) ht hW hWn;have hT:¬ Turns (Zaa d0) x y id:=fun⟨q,hq,_⟩=>by rw[m.has0 r.none] at hq;cases hq
 have hb:Zaa d' id=some ⟨x,(bkey lo hi).1,(bkey lo hi).2⟩:=by rw[r.nodes,Zbm]
 refine⟨m',.inr ⟨_,by rw[Zco,show 2*id/2=id by omega];exact hb,rfl,by rw[Zco,show 2*id/2=id by omega];exact hT⟩,?_,Zpl id hi,fun e he=>?_⟩
 . rw[Zsz (m'.valX hk hb hT (Zc7 hlo) (Zc7 hhi)),Zge m'.mid.ext hlo.1,Zge m'.mid.ext hhi.1]
 ·rcases he with he|⟨c,hc,g1,g2⟩
  . exact⟨.inl he,by rw[Zge m'.mid.ext he.1,Zge m.mid.ext he.1]⟩
  ·have g0:e/2≠id:=by rintro e';rw[e',r.none] at hc;cases hc
   refine⟨.inr ⟨c,by rw[r.nodes,Zay _ g0];exact hc,g1,g2⟩,?_⟩;funext ρ;simp only[ef,addV,if_neg g0]
theorem Zbk.fits (m:Zbk d0 V0 k x y Wt E done d V){κ:Nat×Nat}(hW:κ∈Wt)(ht:d.tab x κ=none)(hroom:d0.pool.many+Wt.length<=d0.pool.room):d.pool.many<d.pool.room:=by
 have h1:(Wt.filter fun κ=>(d.tab x κ).isSome).length<Wt.length:=by
  rw[<- Nat.not_le];intro g0;have h2:=List.length_filter_le (fun κ=>(d.tab x κ).isSome) Wt;have h3:=List.length_filter_eq_length_iff.1 (Nat.le_antisymm h2 g0);have:=h3 κ hW;rw[ht] at this;cases this
 rw[m.many,m.room];omega
end
theorem Zo6 {d0:Zac}{V0:Nat->BF}{k x y:Nat}{Wt:List (Nat×Nat)}{done:Nat->Prop}{d:Zac}{V:Nat->BF}{o:Own}{w:World}{sb:Nat}(h:Zaq o w sb d)(hlt:Zah o w)(m:Zbk d0 V0 k x y Wt (Zat d0) done d V)
 (hk:Dag d0.vars.length (levN d0) (Zaa d0) V0) (hacy:Acy (Zaa d) (rkSw d0.vars.length (levN d0) (Zaa d0) x y (Zaa d))) (hx:x<d0.vars.length) (hvl:d.vars.length=d0.vars.length) (lo hi:Nat) (hlo:lowE d0.vars.length (levN d0) (Zaa d0) y lo) (hhi:lowE d0.vars.length (levN d0) (Zaa d0) y hi)
 (hkey:lo≠hi->d.tab x (bkey lo hi)=none->bkey lo hi∈Wt) (hWn:Wt.Nodup) (hroom:d0.pool.many+Wt.length<=d0.pool.room) :
 Calls prog 192 #[.pointer (some ⟨sb,0,none⟩),.int .i64 x,.int .i64 lo,.int .i64 hi] w fun e w'=>∃ r:Nat,e=.returned (.int .i64 r)/\∃ o' d' V',Zaq o' w' sb d'/\Zah o' w'/\Zf6 d0 V0 k x y Wt done d V lo hi r d' V'/\d'.vars.length=d0.vars.length/\Chg Zan o o' w w':=by
 obtain⟨s,h⟩:=h;have okL:=Zi6 m.mid hlo.1;have okH:=Zi6 m.mid hhi.1;have g9:=h.edge_lt okL;have ga:=h.edge_lt okH;have g4:lo<eMax:=by unfold eMax;omega
 have g6:hi<eMax:=by unfold eMax;omega
 by_cases g8:lo=hi
 ·subst g8;have HF:Hid (∃ r:Nat,Ending.returned (.int .i64 (lo:Nat))=.returned (.int .i64 r)/\∃ o' d' V',Zaq o' w sb d'/\Zah o' w/\Zf6 d0 V0 k x y Wt done d V lo lo r d' V'/\d'.vars.length=d0.vars.length/\Chg Zan o o' w w):=Hd ⟨lo,rfl,o,d,V,⟨s,h⟩,hlt,Zug m hlo,hvl,Chg.refl _ _ _⟩;clear h hlt m hk hacy hlo hhi hkey g4 g6 g9 ga okL okH
  go_enter func192,ntmps192
  go_wp2_with fail;go_ret;exact HF.out
 have go:((lo:Int) == hi)=false:=by simp;omega
 have hv:x<d.vars.length:=by rw[hvl];exact hx
 have g1:=Hd (fun W=>Zkd lo hi W g4 g6);have gb:=Hd (h.tab x (by rw[h.tlen];exact hv));obtain⟨gt,ct,gf,gk,gn,gq⟩:=h.tabAt hv;obtain⟨c0,c1,c2,c3,c4,f0⟩:=cells5 h.blk;rw[gf] at c2;obtain⟨t,ht⟩:∃ t,t=s.ts.getD x 0:=⟨_,rfl⟩;rw[<- ht] at gk gb;have gp:(x:Int)<s.ts.length:=by omega
 obtain⟨lo2,g5⟩:∃ q,q=eflip lo (eneg hi):=⟨_,rfl⟩;obtain⟨g3,g7⟩:∃ q,q=eflip hi (eneg hi):=⟨_,rfl⟩;obtain⟨ng,gd⟩:∃ q,q=eneg hi:=⟨_,rfl⟩;have g2:bkey lo hi=(lo2,g3):=by unfold bkey;rw[g5,g7]
 rw[<- g5,<- g7] at g1;cases g0:d.tab x (lo2,g3) with
 | some id =>
   have gh:=Hd (fun W (hb:Below w.heap.size w W)=>Znt o x t (d.tab x) lo2 g3 id W (gb.out.below hb hlt) g0);have gc:=((m.tabX _ _ id).1 g0).1;have gg:=(h.tk_lt gc).2;have ge:=Hd (fun W=>Ztc id (eneg hi) W (by omega));have HF:Hid (∀ W,Below w.heap.size w W->∃ r:Nat,Ending.returned (.int .i64 (eflip (2*id) (eneg hi):Nat))=.returned (.int .i64 r)/\∃ o' d' V',Zaq o' W sb d'/\Zah o' W/\Zf6 d0 V0 k x y Wt done d V lo hi r d' V'/\d'.vars.length=d0.vars.length/\Chg Zan o o' w W) :=
    Hd fun W hb=>⟨_,rfl,o,d,V,⟨s,h.below hlt hb⟩,hlt.mono hb.size,Zrg m hk hlo hhi (by rw[g2];exact g0),hvl,Chg.of_below hb _ _⟩
   rw[<- gd] at g1 ge HF;clear h hlt m hk hacy hlo hhi hkey g4 g6 g9 ga okL okH g0 gc gg g5 g7 gd g2 hv g8 hvl ht gf
   go_enter func192,ntmps192
   go_wp2_with fail;refine(g1.out _).mono ?_;rintro e w' ⟨rfl,rfl⟩;go_wp2_with fail;refine(gh.out _ (Below.refl _ _)).mono ?_;rintro e w' ⟨rfl,rfl⟩;go_wp2_with fail;refine(ge.out _).mono ?_;rintro e w' ⟨rfl,rfl⟩;go_wp2_with fail;go_ret;exact HF.out _ (Below.refl _ _)
 | none =>
   have gh:=Hd (Zrv o x t (d.tab x) lo2 g3 w gb.out g0);have hW:bkey lo hi∈Wt:=hkey g8 (by rw[g2];exact g0);have gl:=Hd (Zjw h hlt (by rw[m.ext];exact m.live) (fun i b hb=>⟨hacy.okLo i b hb,hacy.okHi i b hb⟩) x lo2 g3 hv g0 m.clen);have gi:Hid (d.pool.many≠d.pool.room):=Hd fun e=>by have:=m.fits hW (by rw[g2];exact g0) hroom;omega
   have HF:Hid (∀ id d' o' W,Zaq o' W sb d'->Zah o' W->Zki d d' id x lo2 g3->Chg Zan o o' w W->∃ r:Nat,Ending.returned (.int .i64 (eflip (2*id) (eneg hi):Nat))=.returned (.int .i64 r)/\∃ o' d' V',Zaq o' W sb d'/\Zah o' W/\Zf6 d0 V0 k x y Wt done d V lo hi r d' V'/\d'.vars.length=d0.vars.length/\Chg Zan o o' w W):=by
    refine Hd fun id d' o' W h1 h2 h3 h4=>⟨_,rfl,o',d',_,h1,h2,Zwh m hk hlo hhi g8 (by rw[g2];exact g0) (by rw[g2];exact h3) hW hWn,by rw[h3.vars];exact hvl,h4⟩
   rw[<- gd] at g1 HF;clear h hlt m hk hacy hlo hhi hkey g4 g6 g9 ga okL okH g0 g5 g7 g2 hv g8 hvl ht gf hW gd
   go_enter func192,ntmps192
   go_wp2_with fail;refine(g1.out _).mono ?_;rintro e w' ⟨rfl,rfl⟩;go_wp2_with fail;refine gh.out.mono ?_;rintro e w' ⟨rfl,rfl⟩;go_wp2_with fail;refine gl.out.mono ?_;rintro e w6 (⟨hm,rfl,gr⟩|⟨id,d',o',rfl,hs,gj,hr,hc⟩)
   . exact(gi.out hm).elim
   ·have gg:id<1048578:=by
     obtain⟨s',hs'⟩:=hs;have hn:Zaa d' id=some ⟨x,lo2,g3⟩:=by rw[hr.nodes,Zbm]
     have:=hs'.tk_lt hn;omega
    have ge:=Hd (Ztc id ng w6 (by omega));have gm:=Hd (HF.out id d' o' w6 hs gj hr hc);clear hs gj hr hc c0 c1 c2 c3 c4 f0 gk;go_wp2_with fail;refine ge.out.mono ?_;rintro e w' ⟨rfl,rfl⟩;go_wp2_with fail;go_ret;exact gm.out
open Go.RowKit
section
variable {d0 d:Zac}{V0 V:Nat->BF}{k x y:Nat}{Wt:List (Nat×Nat)}{E:Nat->Int}{done:Nat->Prop}
structure Ycp (d0:Zac)(V0:Nat->BF)(x y i ll lh hl hh:Nat):Prop where
 f1:lowE d0.vars.length (levN d0) (Zaa d0) y ll
 f2:lowE d0.vars.length (levN d0) (Zaa d0) y lh
 f3:lowE d0.vars.length (levN d0) (Zaa d0) y hl
 f4:lowE d0.vars.length (levN d0) (Zaa d0) y hh
 val:∀ ρ,V0 i ρ=if ρ x then (if ρ y then ef V0 hh ρ else ef V0 hl ρ) else (if ρ y then ef V0 lh ρ else ef V0 ll ρ)
 reg:hh%2=0
theorem Zzl (hk:Zaj d0 V0)(hy:y<d0.vars.length)(hl:levN d0 y=levN d0 x+1){i:Nat}{b:BN}(hb:Zaa d0 i=some b)(hbx:b.v=x) :
 Ycp d0 V0 x y i (cofs d0 b.lo y).1 (cofs d0 b.lo y).2 (cofs d0 b.hi y).1 (cofs d0 b.hi y).2:=by
 have l1:=hk.dag.lvLo _ _ hb;have l2:=hk.dag.lvHi _ _ hb;rw[hbx] at l1 l2;obtain⟨a1,a2,a3,a4,a5⟩:=Zcs hk (hk.dag.okLo _ _ hb) hy (by omega);obtain⟨c1,c2,c3,c4,c5⟩:=Zcs hk (hk.dag.okHi _ _ hb) hy (by omega);refine⟨⟨a1,a3⟩,⟨a2,a4⟩,⟨c1,c3⟩,⟨c2,c4⟩,fun ρ=>?_,?_⟩
 . rw[hk.dag.eqn _ _ hb,hbx];unfold iteF;rw[a5 ρ,c5 ρ]
 ·have hr:=hk.dag.reg _ _ hb;unfold cofs;cases hc:Zaa d0 (b.hi/2) with
  | none=>exact hr
  | some c =>
    dsimp only;split
    ·have:eneg b.hi=false:=by unfold eneg;rw[hr];rfl
     dsimp only;rw[this];exact hk.dag.reg _ _ hc
    . exact hr
theorem Zv0 (hk:Zaj d0 V0)(hx:x<d0.vars.length)(hy:y<d0.vars.length)(hxy:x≠y)(hl:levN d0 y=levN d0 x+1){i ll lh hl' hh lo hi:Nat}(t:Ycp d0 V0 x y i ll lh hl' hh)(hne:ll≠lh\/hl'≠hh)
 (h1:ef V lo=iteF x (ef V0 hl') (ef V0 ll)) (h2:ef V hi=iteF x (ef V0 hh) (ef V0 lh)):V0 i=iteF y (ef V hi) (ef V lo)/\lo≠hi:=by
 constructor
 . funext ρ;rw[t.val ρ,h1,h2];unfold iteF;cases ρ x<;>cases ρ y<;>rfl
 ·rintro rfl;rw[h1] at h2;have ind:∀ {e:Nat},lowE d0.vars.length (levN d0) (Zaa d0) y e->∀ (ρ:Nat->Bool) (b:Bool),ef V0 e (upd ρ x b)=ef V0 e ρ:=fun he ρ b=>hk.dag.indep_var he.1 (by have:=he.2;omega) ρ b
  have e1:ef V0 hl'=ef V0 hh:=by
   funext ρ;have:=congrFun h2 (upd ρ x true);unfold iteF at this;rw[Zf3,ind t.f3,ind t.f4] at this;simpa using this
  have e2:ef V0 ll=ef V0 lh:=by
   funext ρ;have:=congrFun h2 (upd ρ x false);unfold iteF at this;rw[Zf3,ind t.f1,ind t.f2] at this;simpa using this
  rcases hne with h|h
  . exact h (hk.dag.canon t.f1.1 t.f2.1 e2)
  . exact h (hk.dag.canon t.f3.1 t.f4.1 e1)
theorem Zw2 {kk:Nat}{N:Nat->Option BN}{c:Nat->Nat}{i:Nat}{b b':BN}(hb:N i=some b):Zeg kk (setN N i b') c=Zeg kk N c:=by
 unfold Zeg;refine Zaz _ fun j _=>?_
 unfold dead1 setN
 by_cases e:j=i
 . subst e;rw[if_pos rfl,hb]
 . rw[if_neg e]
theorem Zbk.set {i lo hi:Nat}{b:BN}{p':Zak}(m:Zbk d0 V0 k x y Wt E done d V)(hxy:x≠y)(hk:Dag d0.vars.length (levN d0) (Zaa d0) V0)(hy:y<d0.vars.length)(hT:Turns (Zaa d0) x y i)(hd:¬ done i)(hb:Zaa d0 i=some b)
 (hlo:midE d0.vars.length (levN d0) (Zaa d0) (Zaa d) x y lo) (hhi:midE d0.vars.length (levN d0) (Zaa d0) (Zaa d) x y hi) (hr:hi%2=0) (hne:lo≠hi) (hV:V0 i=iteF y (ef V hi) (ef V lo))
 (hn:Zaa { d with pool:=p' }=setN (Zaa d) i ⟨y,lo,hi⟩) (he:Zat { d with pool:=p' }=Zat d) (h1:p'.room=d.pool.room) (h2:p'.many=d.pool.many) (h3:p'.at_.length=d.pool.at_.length) :
 Zbk d0 V0 k x y Wt (addE (addE (addE (addE E b.lo 1) b.hi 1) lo (-1)) hi (-1)) (fun j=>done j\/j=i) { d with pool:=p',tab:=fun u=>if u=y then putF (d.tab u) (lo,hi) (some i) else d.tab u } V:=by
 have g5:=m.fresh_y hk hxy hy hT hd hV;have g1:Zaa d i=some b:=m.mid.keep i b hb hd;have g4:b.v=x:=Zsn hb hT;have g0:Zaa { d with pool:=p',tab:=fun u=>if u=y then putF (d.tab u) (lo,hi) (some i) else d.tab u }=setN (Zaa d) i ⟨y,lo,hi⟩:=hn;refine⟨by rw[g0];exact m.mid.turn hxy hT hlo hhi hr hne hV,m.vars,m.level,h1.trans m.room,he.trans m.ext,⟨?_,?_,fun j c hc=>?_⟩,fun v hv g2 lo' g3 j=>?_,fun lo' g3 j=>?_,m.clen,m.pos,?_⟩
 ·show Cnt p'.at_.length _ (Zas d) _
  rw[g0,h3];exact m.live.cnt.setLive g1 (m.pos i hT)
 ·show (d.dead:Int)=Zeg p'.at_.length _ (Zas d)
  rw[g0,h3,Zw2 g1];exact m.live.dead
 ·rw[g0] at hc
  show j<d.counts.length
  unfold setN at hc;split at hc
  . rename_i e;rw[e];exact m.live.has i b g1
  . exact m.live.has j c hc
 ·rw[g0];dsimp only
  by_cases e:v=y
  ·subst e;rw[if_pos rfl];unfold putF
   by_cases e2:(lo',g3)=(lo,hi)
   ·cases e2;rw[if_pos rfl];constructor
    . intro e3;cases e3;simp[setN]
    ·intro e3;unfold setN at e3;split at e3
     . rename_i e4;rw[e4]
     . have:=(m.tabO v hv g2 _ _ j).2 e3;rw[g5] at this;cases this
   ·rw[if_neg e2,m.tabO v hv g2];unfold setN
    by_cases e4:j=i
    ·subst e4;rw[if_pos rfl,g1];constructor
     . intro e5;cases e5;exact absurd g4 (Ne.symm hxy)
     . intro e5;cases e5;exact absurd rfl e2
    . rw[if_neg e4]
  ·rw[if_neg e,m.tabO v hv g2];unfold setN
   by_cases e4:j=i
   ·subst e4;rw[if_pos rfl,g1];constructor
    . intro e5;cases e5;exact absurd g4 g2
    . intro e5;cases e5;exact absurd rfl e
   . rw[if_neg e4]
 ·rw[g0];dsimp only;rw[if_neg hxy,m.tabX];unfold setN
  by_cases e4:j=i
  ·subst e4;rw[if_pos rfl];constructor
   . rintro⟨_,h⟩;exact(h hT).elim
   . rintro⟨_,h⟩;exact(h hT).elim
  . rw[if_neg e4]
 ·show p'.many=_
  rw[h2,m.many];dsimp only;rw[if_neg hxy]
end
open Go.RowKit
structure TRow (w:World)(base:Nat)(v:Value)(ts:List TN):Prop where
 small:ts.length<=1048578
 ex:∃ a c,v=.slice a ts.length c/\∀ k,∀ hk:k<ts.length,∃ g,a=some ⟨g,0,none⟩/\base<=g/\∀ j u,(tnV ts[k])[j]?=some u->w.cell? ⟨g,k*9+j,none⟩=some u
theorem TRow.keep {w w':World}{base:Nat}{v:Value}{ts:List TN}(h:TRow w base v ts)(hk:∀ g,base<=g->g<w.heap.size->v.ownBlock=some g->w'.heap[g]?=w.heap[g]?):TRow w' base v ts:=by
 obtain⟨a,c,rfl,h1⟩:=h.ex;refine⟨h.small,a,c,rfl,fun k g0=>?_⟩;obtain⟨g,rfl,hb,hc⟩:=h1 k g0;refine⟨g,rfl,hb,fun j u hu=>?_⟩;have:=hc j u hu;exact(World.cell?_of_block (w:=w) (a:=⟨g,k*9+j,none⟩) (hk g hb (Zab this) rfl)).trans this
theorem TRow.below {w w':World}{base:Nat}{v:Value}{ts:List TN}(h:TRow w base v ts)(hb:Below w.heap.size w w'):TRow w' base v ts:=h.keep fun g _ hg _=>hb.block g hg
def Zb7 (t:TN):List (Nat×Nat):=[(t.ll,t.hl),(t.lh,t.hh)]
structure Zga (f:Nat×Nat->Option Nat)(ps:List (Nat×Nat))(Wt:List (Nat×Nat)):Prop where
 nodup:Wt.Nodup
 free:∀ κ∈Wt,f κ=none
 has:∀ p∈ps,p.1≠p.2->f (bkey p.1 p.2)=none->bkey p.1 p.2∈Wt
 len:Wt.length<=ps.length
theorem Zga.skip {f:Nat×Nat->Option Nat}{ps Wt:List (Nat×Nat)}(h:Zga f ps Wt){p:Nat×Nat}(hp:p.1≠p.2->f (bkey p.1 p.2)=none->bkey p.1 p.2∈Wt):Zga f (ps++[p]) Wt :=
 ⟨h.nodup,h.free,fun q hq=>by
  rcases List.mem_append.1 hq with hq|hq
  . exact h.has q hq
  . simp only[List.mem_singleton] at hq;subst hq;exact hp,by have:=h.len;simp;omega⟩
theorem Zga.add {f:Nat×Nat->Option Nat}{ps Wt:List (Nat×Nat)}(h:Zga f ps Wt){p:Nat×Nat}(h1:f (bkey p.1 p.2)=none)(h2:bkey p.1 p.2∉Wt):Zga f (ps++[p]) (Wt++[bkey p.1 p.2]) :=
 ⟨List.nodup_append.2 ⟨h.nodup,by simp,fun a ha b hb=>by simp only[List.mem_singleton] at hb;subst hb;rintro rfl;exact h2 ha⟩,fun κ hκ=>by
  rcases List.mem_append.1 hκ with hκ|hκ
  . exact h.free κ hκ
  . simp only[List.mem_singleton] at hκ;subst hκ;exact h1,fun q hq h3 h4=>by
  rcases List.mem_append.1 hq with hq|hq
  . exact List.mem_append_left _ (h.has q hq h3 h4)
  . simp only[List.mem_singleton] at hq;subst hq;simp,by have:=h.len;simp;omega⟩
def Zlh (Wt:List (Nat×Nat)):List ((Nat×Nat)×Value):=Wt.map fun κ=>(κ,.bool true)
theorem Zli (κ:Nat×Nat):∀ (Wt:List (Nat×Nat)) (i:Nat),(Zb9 κ (Zlh Wt) i).map (·.2)=if κ∈Wt then some (.bool true) else none
 | [],_=>rfl
 | a::l,i=>by
   show (if a=κ then some (i,Value.bool true) else Zb9 κ (Zlh l) (i+1)).map (·.2)=_
   by_cases e:a=κ
   . rw[if_pos e];simp[e]
   . rw[if_neg e,Zli κ l (i+1)];simp[Ne.symm e]
theorem Ya4 (Wt:List (Nat×Nat))(κ:Nat×Nat):(getL (Zlh Wt) κ).getD (.bool false)=.bool (decide (κ∈Wt)):=by
 unfold getL;rw[Zli]
 by_cases h:κ∈Wt
 . rw[if_pos h,decide_eq_true h];rfl
 . rw[if_neg h,decide_eq_false h];rfl
theorem Ya5 {Wt:List (Nat×Nat)}{κ:Nat×Nat}(h:κ∉Wt):putL κ (.bool true) (Zlh Wt)=Zlh (Wt++[κ]):=by
 have h1:=Zli κ Wt 0;rw[if_neg h] at h1;unfold putL;cases e:Zb9 κ (Zlh Wt) 0 with
 | none=>simp[Zlh]
 | some p=>rw[e] at h1;cases h1
theorem Zzo {o:Own}{w:World}{sb:Nat}{d:Zac}{s:Zaw}(h:Zal o w sb d s)(hlt:Zah o w)(x:Nat)(hx:x<d.vars.length){v:Value}{ts:List TN}{base:Nat}(hr:TRow w base v ts)(hok:∀ t∈ts,t.ll<eMax/\t.lh<eMax/\t.hl<eMax/\t.hh<eMax) :
 Calls prog 187 #[.pointer (some ⟨sb,0,none⟩),.int .i64 x,v] w fun e w'=>∃ Wt,e=.returned (.int .i64 (Wt:List (Nat×Nat)).length)/\Zga (d.tab x) (ts.flatMap Zb7) Wt/\Below w.heap.size w w':=by
 obtain⟨a,c,rfl,gf⟩:=hr.ex;have hw:=hr.small;have HR:=Hd hr;obtain⟨gt,ct,gF,gA,ho,hv⟩:=h.tabAt hx;obtain⟨c0,c1,c2,c3,c4,f0⟩:=cells5 h.blk;rw[gF] at c2;have gD:=Hd (h.tab x (by rw[h.tlen];exact hx));have he:=Hd hlt;obtain⟨t,ht⟩:∃ t,t=s.ts.getD x 0:=⟨_,rfl⟩;rw[<- ht] at gA gD;have hp:(x:Int)<s.ts.length:=by omega
 have hg:=Hd gf;have h9:Hid (∀ k,∀ hk:k<ts.length,ts[k].ll<eMax/\ts[k].lh<eMax/\ts[k].hl<eMax/\ts[k].hh<eMax):=Hd fun k hk=>hok _ (List.getElem_mem hk)
 clear h hlt hr ht gF gf hok c0 c1 c3 c4 f0;have h0:=Zc4 (P:=prog) w 282;obtain⟨w1,ge⟩:∃ w1,w1=w.alloc (.map #[] 0):=⟨_,rfl⟩;have hd:Hid (Za5 w1 w.heap.size encE (Zlh [])):=by rw[ge];exact Hd (Zff w encE)
 have hn:Hid (Below w.heap.size w w1):=by rw[ge];exact Hd (Zaf _ _)
 have hs1:w1.heap.size=w.heap.size+1:=by rw[ge];simp
 rw[<- ge] at h0;clear ge
 go_enter func187,ntmps187
 go_wp2_with fail
 go_loopw [8,22] (fun s8 s22 wr=>∃ (k:Nat) (Wt:List (Nat×Nat)),k<=ts.length/\s22=.int .i64 k/\s8=.int .i64 Wt.length/\Below w.heap.size w wr/\w1.heap.size<=wr.heap.size/\Za5 wr w.heap.size encE (Zlh Wt)/\Hid (Zga (d.tab x) ((ts.take k).flatMap Zb7) Wt)) (fun _ s22 _=>ts.length-(intOf s22).toNat)
 case atStart=>exact⟨0,[],Nat.zero_le _,rfl,rfl,hn.out,Nat.le_refl _,hd.out,Hd ⟨List.nodup_nil,fun _ h=>by simp at h,fun _ h=>by simp at h,Nat.le_refl _⟩⟩
 case round =>
  obtain⟨k,Wt,hk,rfl,rfl,g4,gX,g3,HW⟩:=hrel;have gb:=Hd g4;have gE:=Hd g3;clear g4 g3
  by_cases hlt:k<ts.length
  ·obtain⟨g,rfl,hz,hc⟩:=hg.out k hlt;obtain⟨ok1,ok2,ok3,ok4⟩:=h9.out k hlt
   have gC:Hid ((ts.take (k+1)).flatMap Zb7=(ts.take k).flatMap Zb7++[(ts[k].ll,ts[k].hl),(ts[k].lh,ts[k].hh)]):=Hd (by
    rw[List.take_succ_eq_append_getElem hlt,List.flatMap_append];rfl)
   have g2:=gb.out;obtain⟨tn,gG⟩:∃ tn,tn=ts[k]:=⟨_,rfl⟩;rw[<- gG] at hc ok1 ok2 ok3 ok4 gC;obtain⟨⟨i0,i1,i2,i3,i4⟩,ll,lh,hl,hh⟩:=tn;have e0:=(g2.cell (p:=⟨g,k*9,none⟩) (Zab (hc 0 _ rfl))).trans (hc 0 _ rfl);have e1:=(g2.cell (p:=⟨g,k*9+1,none⟩) (Zab (hc 1 _ rfl))).trans (hc 1 _ rfl);have e2:=(g2.cell (p:=⟨g,k*9+2,none⟩) (Zab (hc 2 _ rfl))).trans (hc 2 _ rfl);have e3:=(g2.cell (p:=⟨g,k*9+3,none⟩) (Zab (hc 3 _ rfl))).trans (hc 3 _ rfl);have e4:=(g2.cell (p:=⟨g,k*9+4,none⟩) (Zab (hc 4 _ rfl))).trans (hc 4 _ rfl);have e5:=(g2.cell (p:=⟨g,k*9+5,none⟩) (Zab (hc 5 _ rfl))).trans (hc 5 _ rfl);have e6:=(g2.cell (p:=⟨g,k*9+6,none⟩) (Zab (hc 6 _ rfl))).trans (hc 6 _ rfl);have e7:=(g2.cell (p:=⟨g,k*9+7,none⟩) (Zab (hc 7 _ rfl))).trans (hc 7 _ rfl);have e8:=(g2.cell (p:=⟨g,k*9+8,none⟩) (Zab (hc 8 _ rfl))).trans (hc 8 _ rfl);dsimp only at ok1 ok2 ok3 ok4 gC;have h4:(k:Int)<ts.length:=by omega
   clear hc g2 gG;go_upto_region 7 with fail;obtain⟨wi,gp⟩:∃ wi,wi=(wr.alloc (.cells #[.int .i64 i0,.int .i64 i1,.int .i64 i2,.int .i64 i3,.int .i64 i4,.int .i64 ll,.int .i64 lh,.int .i64 hl,.int .i64 hh] 270)).alloc (.cells #[.int .i64 ll,.int .i64 hl,.int .i64 lh,.int .i64 hh] 257):=⟨_,rfl⟩;rw[<- gp];have gs:Below wr.heap.size wr wi:=by rw[gp];exact(Zaf _ _).alloc (by simp) _
   have g0:wi.heap[wr.heap.size+1]?=some (.cells #[.int .i64 ll,.int .i64 hl,.int .i64 lh,.int .i64 hh] 257 (0,0)):=by
    rw[gp];have:=heap_alloc_new (wr.alloc (.cells #[.int .i64 i0,.int .i64 i1,.int .i64 i2,.int .i64 i3,.int .i64 i4,.int .i64 ll,.int .i64 lh,.int .i64 hl,.int .i64 hh] 270)) (.cells #[.int .i64 ll,.int .i64 hl,.int .i64 lh,.int .i64 hh] 257);rw[World.size_alloc] at this;exact this
   have HP:Hid (∀ j,j<2->∃ p1 p2:Nat,wi.cell? ⟨wr.heap.size+1,j*2,none⟩=some (.int .i64 p1)/\wi.cell? ⟨wr.heap.size+1,j*2+1,none⟩=some (.int .i64 p2)/\p1<eMax/\p2<eMax/\[(ll,hl),(lh,hh)].take (j+1)=[(ll,hl),(lh,hh)].take j++[(p1,p2)]):=by
    refine Hd fun j hj=>?_
    rcases(by omega:j=0\/j=1) with rfl|rfl
    . exact⟨ll,hl,by rw[cell_of_row _ _ _ _ _ _ g0];rfl,by rw[cell_of_row _ _ _ _ _ _ g0];rfl,ok1,ok3,rfl⟩
    . exact⟨lh,hh,by rw[cell_of_row _ _ _ _ _ _ g0];rfl,by rw[cell_of_row _ _ _ _ _ _ g0];rfl,ok2,ok4,rfl⟩
   have hi:=Hd (gb.out.trans (gs.mono gb.out.size));have gK:=gE.out.below gs;have gR:w1.heap.size<=wi.heap.size:=Nat.le_trans gX gs.size;have gJ:wr.heap.size+1<wi.heap.size:=(Array.getElem?_eq_some_iff.1 g0).1;clear gp g0 e0 e1 e2 e3 e4 e5 e6 e7 e8 ok1 ok2 ok3 ok4 gE gb gs
   go_loopw [8,38] (fun s8 s38 wx=>∃ (j:Nat) (Wt:List (Nat×Nat)),j<=2/\s38=.int .i64 j/\s8=.int .i64 Wt.length/\Below w.heap.size w wx/\wi.heap.size<=wx.heap.size/\(∀ q,q≠w.heap.size->q<wi.heap.size->wx.heap[q]?=wi.heap[q]?)/\Za5 wx w.heap.size encE (Zlh Wt)/\Hid (Zga (d.tab x) ((ts.take k).flatMap Zb7++[(ll,hl),(lh,hh)].take j) Wt)) (fun _ s38 _=>2-(intOf s38).toNat)
   case atStart=>exact⟨0,Wt,Nat.zero_le _,rfl,rfl,hi.out,Nat.le_refl _,fun _ _ _=>rfl,gK,Hd (by simpa using HW.out)⟩
   case round =>
    rename World=>wy
    clear HW gK;obtain⟨j,W2,hj,rfl,rfl,g4,gy,g5,g3,HW⟩:=hrel
    by_cases gT:j<2
    ·obtain⟨p1,p2,k1,k2,b1,b2,gH⟩:=HP.out j gT;have q1:=(World.cell?_of_block (w:=wi) (w':=wy) (a:=⟨wr.heap.size+1,j*2,none⟩) (g5 _ (by dsimp only;omega) gJ)).trans k1;have q2:=(World.cell?_of_block (w:=wi) (w':=wy) (a:=⟨wr.heap.size+1,j*2+1,none⟩) (g5 _ (by dsimp only;omega) gJ)).trans k2;have gu:=Hd gH;have gw:=Hd g5;have gl:=Hd g4;have gv:=Hd g3;have hy:(j:Int)<2:=by omega
     clear k1 k2 gH g5 g4 g3;go_upto_region 9 with fail;obtain⟨wz,gn⟩:∃ wz,wz=wy.alloc (.cells #[.int .i64 p1,.int .i64 p2] 257):=⟨_,rfl⟩;rw[<- gn];have gg:Below wy.heap.size wy wz:=by rw[gn];exact Zaf _ _
     have g0:wz.heap[wy.heap.size]?=some (.cells #[.int .i64 p1,.int .i64 p2] 257 (0,0)):=by rw[gn];exact heap_alloc_new _ _
     have z1:wz.cell? ⟨wy.heap.size,0,none⟩=some (.int .i64 p1):=by rw[cell_of_row _ _ 0 _ _ _ g0];rfl
     have z2:wz.cell? ⟨wy.heap.size,1,none⟩=some (.int .i64 p2):=by rw[cell_of_row _ _ 1 _ _ _ g0];rfl
     have gc:=Hd (gl.out.trans (gg.mono gl.out.size));have gO:=Hd (gv.out.below gg);have gP:Hid (∀ q,q≠w.heap.size->q<wi.heap.size->wz.heap[q]?=wi.heap[q]?):=Hd fun q h1 h2=>(gg.block q (by omega)).trans (gw.out q h1 h2)
     have gS:wi.heap.size<=wz.heap.size:=Nat.le_trans gy gg.size;have v2:=(gc.out.cell (p:=⟨sb,2,none⟩) (Zab c2)).trans c2;have vt:=(gc.out.cell (p:=⟨gt,x,none⟩) (Zab gA)).trans gA;clear gn gg g0 q1 q2 gv gw gl;obtain⟨a1,gj⟩:∃ q,q=eflip p1 (eneg p2):=⟨_,rfl⟩;obtain⟨a2,gi⟩:∃ q,q=eflip p2 (eneg p2):=⟨_,rfl⟩;have gm:Hid (bkey p1 p2=(a1,a2)):=Hd (by unfold bkey;rw[gj,gi])
     have gN:Hid (a1=a2↔p1=p2):=Hd ⟨fun e=>by
      by_cases e2:p1=p2
      . exact e2
      . exact(Zj6 (b:=eneg p2) e2 (by rw[<- gj,<- gi,e])).elim,fun e=>by rw[gj,gi,e]⟩
     have g6:=Hd (Zkd p1 p2 wz b1 b2);rw[<- gj,<- gi] at g6;obtain⟨ng,gI⟩:∃ q,q=eneg p2:=⟨_,rfl⟩;rw[<- gI] at g6;have gB:=Hd (gD.out.below gc.out he.out);clear gj gi gI b1 b2;go_wp2_with fail;refine g6.out.mono ?_;rintro e w' ⟨rfl,rfl⟩;clear g6 z1 z2;have h5:∃ fd:Option Nat,fd=d.tab x (a1,a2):=⟨_,rfl⟩;obtain⟨fd,gr⟩:=h5;have gx:Hid (Calls prog 180 #[.pointer (some ⟨t,0,none⟩),.int .i64 a1,.int .i64 a2] wz fun x w'=>x=.returned (.tuple #[.int .i64 ((fd.getD 0:Nat):Int),.bool fd.isSome])/\wz=w'):=by
      refine Hd ?_;cases fd with
      | none=>exact Zrv o x t (d.tab x) a1 a2 wz gB.out gr.symm
      | some id=>exact Znt o x t (d.tab x) a1 a2 id wz gB.out gr.symm
     have gQ:=Hd gr;clear gr;go_wp2_with fail;refine gx.out.mono ?_;rintro e w' ⟨rfl,rfl⟩;clear gx v2 vt;go_upto_region 12 with fail;obtain⟨wk,go⟩:∃ wk,wk=wz.alloc (.cells #[.int .i64 a1,.int .i64 a2] 257):=⟨_,rfl⟩;rw[<- go];have gh:Below wz.heap.size wz wk:=by rw[go];exact Zaf _ _
     have g0:wk.heap[wz.heap.size]?=some (.cells #[.int .i64 a1,.int .i64 a2] 257 (0,0)):=by rw[go];exact heap_alloc_new _ _
     have z1:wk.cell? ⟨wz.heap.size,0,none⟩=some (.int .i64 a1):=by rw[cell_of_row _ _ 0 _ _ _ g0];rfl
     have z2:wk.cell? ⟨wz.heap.size,1,none⟩=some (.int .i64 a2):=by rw[cell_of_row _ _ 1 _ _ _ g0];rfl
     have ga:=Hd (gc.out.trans (gh.mono gc.out.size));have gk:=Hd (gO.out.below gh);have HKK:Hid (∀ q,q≠w.heap.size->q<wi.heap.size->wk.heap[q]?=wi.heap[q]?):=Hd fun q h1 h2=>(gh.block q (by omega)).trans (gP.out q h1 h2)
     have gd:wi.heap.size<=wk.heap.size:=Nat.le_trans gS gh.size;clear go gh g0 gO gP gc gB
     by_cases g7:p1=p2
     ·have gM:a1=a2:=gN.out.2 g7;have g9:Hid (Zga (d.tab x) ((ts.take k).flatMap Zb7++[(ll,hl),(lh,hh)].take (j+1)) W2):=Hd (by rw[gu.out,<- List.append_assoc];exact HW.out.skip fun h=>(h g7).elim);have gU:((a1:Int) == a2)=true:=by simp[gM]
      clear g7 gM;go_wp2_with fail;go_roundw
      case rel=>exact⟨j+1,W2,by omega,by go_num,rfl,ga.out,gd,HKK.out,gk.out,g9⟩
      case measure=>simp[intOf];omega
     have gU:((a1:Int) == a2)=false:=by
      have h1:a1≠a2:=fun e=>g7 (gN.out.1 e)
      simp;omega
     cases fd with
     | some id =>
       have g9:Hid (Zga (d.tab x) ((ts.take k).flatMap Zb7++[(ll,hl),(lh,hh)].take (j+1)) W2):=Hd (by
        rw[gu.out,<- List.append_assoc];exact HW.out.skip fun _ h=>by rw[gm.out,<- gQ.out] at h;cases h)
       clear g7;go_wp2_with fail;go_roundw
       case rel=>exact⟨j+1,W2,by omega,by go_num,rfl,ga.out,gd,HKK.out,gk.out,g9⟩
       case measure=>simp[intOf];omega
     | none =>
       have g1:=gk.out.lookup (P:=prog) Zp2 underlying282 zeroValue4 (a1,a2) false;rw[Ya4] at g1;simp only[Bool.false_eq_true,if_false] at g1
       by_cases g8:(a1,a2)∈W2
       ·rw[decide_eq_true g8] at g1
        have g9:Hid (Zga (d.tab x) ((ts.take k).flatMap Zb7++[(ll,hl),(lh,hh)].take (j+1)) W2):=Hd (by
         rw[gu.out,<- List.append_assoc];exact HW.out.skip fun _ _=>by rw[gm.out];exact g8)
        unfold encE at g1;dsimp only at g1;clear g7 g8;go_wp2_with fail;go_roundw
        case rel=>exact⟨j+1,W2,by omega,by go_num,rfl,ga.out,gd,HKK.out,gk.out,g9⟩
        case measure=>simp[intOf];omega
       ·rw[decide_eq_false g8] at g1
        have g9:Hid (Zga (d.tab x) ((ts.take k).flatMap Zb7++[(ll,hl),(lh,hh)].take (j+1)) (W2++[(a1,a2)])):=Hd (by
         rw[gu.out,<- List.append_assoc];have:=HW.out.add (p:=(p1,p2)) (by rw[gm.out,<- gQ.out]) (by rw[gm.out];exact g8);rw[gm.out] at this;exact this)
        have gV:=Hd (Ya5 g8);have hu:W2.length<=4194312:=by
         have h1:=HW.out.len;have h2:((ts.take k).flatMap Zb7).length<=2*ts.length:=by
          rw[List.length_flatMap];have:((ts.take k).map fun a=>(Zb7 a).length)=List.replicate (ts.take k).length 2:=by
           rw[List.eq_replicate_iff];exact⟨by simp,fun b hb=>by obtain⟨q,_,rfl⟩:=List.mem_map.1 hb;rfl⟩
          rw[this];simp;omega
         have h3:([(ll,hl),(lh,hh)].take j).length<=2:=by simp;omega
         rw[List.length_append] at h1;omega
        unfold encE at g1;dsimp only at g1;clear g7 g8;go_wp2_with (refine Zhs (l:=Zlh W2) (enc:=encE) rfl _ _ _ rfl Zp2 underlying282 (a1,a2) (.bool true) rfl rfl rfl gk.out ?_;intro w6 gz gq);rw[gV.out] at gz;have hm:=Hd (ga.out.grown gq ga.out.size (fun q hq=>by cases hq;exact Nat.le_refl _));have ha:=Hd gz;have gZ:wi.heap.size<=w6.heap.size:=Nat.le_trans gd gq.size;have hf:Hid (∀ q,q≠w.heap.size->q<wi.heap.size->w6.heap[q]?=wi.heap[q]?):=Hd fun q h1 h2=>(gq.block q (by omega) (fun e=>h1 (by injection e))).trans (HKK.out q h1 h2)
        clear gz gq;go_roundw
        case rel=>exact⟨j+1,W2++[(a1,a2)],by omega,by go_num,by simp,hm.out,gZ,hf.out,ha.out,g9⟩
        case measure=>simp[intOf];omega
    ·have h6:j=2:=by omega
     subst h6;have h8:Hid (Zga (d.tab x) ((ts.take (k+1)).flatMap Zb7) W2):=Hd (by rw[gC.out];exact HW.out);have gl:=Hd g4;have gv:=Hd g3;have gY:w1.heap.size<=wy.heap.size:=Nat.le_trans gR gy;clear g4 g3 g5;go_wp2_with fail;go_roundw
     case rel=>exact⟨k+1,W2,by omega,by go_num,rfl,gl.out,gY,gv.out,h8⟩
     case measure=>simp[intOf];omega
  ·have gL:k=ts.length:=by omega
   have h7:Hid (∃ W':List (Nat×Nat),Ending.returned (.int .i64 (Wt.length:Nat))=.returned (.int .i64 (W'.length:Nat))/\Zga (d.tab x) (ts.flatMap Zb7) W'/\Below w.heap.size w wr):=Hd ⟨Wt,rfl,by have:=HW.out;rw[gL,List.take_length] at this;exact this,gb.out⟩;have h4:¬ (k:Int)<ts.length:=by omega
   clear gL;go_wp2_with fail;go_ret;exact h7.out
end Go.Proofs.YtgmbklaolcmljaaGreat

namespace Go.Proofs.YtgmbklaolcmljaaGreat
open Go.Proofs.Tryz
open Go.RowKit Go.Shelf
open Go.ChangeMaps (setBlock)
def Ybt (n:Nat)(w:World)(v:Value)(ks:List (Nat×Nat)):Prop:=∃ a c,v=.slice a ks.length c/\∀ j q,ks[j]?=some q->∃ g,a=some ⟨g,0,none⟩/\n<=g/\w.cell? ⟨g,j*2,none⟩=some (.int .i64 q.1)/\w.cell? ⟨g,j*2+1,none⟩=some (.int .i64 q.2)
theorem Zkz (ks:List (Nat×Nat)){j:Nat}{q:Nat×Nat}(h:ks[j]?=some q)(i:Nat)(hi:i<2):(Go.Sort.flatK Zdd 2 ks.toArray)[j*2+i]! = (Zdd q)[i]! := by
 obtain⟨hj,rfl⟩:=List.getElem?_eq_some_iff.1 h;rw[Go.Sort.get_flatK _ _ _ _ (by simp;omega)];have e1:(j*2+i)/2=j:=by omega
 have e2:(j*2+i)%2=i:=by omega
 rw[e1,e2];congr 2;simp[hj]
theorem Yag (ks:List (Nat×Nat)):(ks.flatMap Zdd).length=ks.length*2:=Za7 Zdd 2 (fun _=>rfl) ks
theorem Zuy {oG:Own}{w:World}{g cap m:Nat}{ks:List (Nat×Nat)}(h:RowR oG w .slots 257 2 (.slice (some ⟨g,0,none⟩) m cap) ks.length (ks.flatMap Zdd)):Go.Sort.HoldsK Zdd 2 w g 0 ks.toArray:=by
 intro j hj;have g0:j<ks.length*2:=by simpa using hj
 refine⟨?_,by rw[Nat.zero_add];exact h.frozen j⟩;rw[Nat.zero_add,h.cell j (by rw[Yag];exact g0)];have hd:j/2<ks.length:=by omega
 have hm:j%2<2:=by omega
 have e:j=j/2*2+j%2:=by omega
 obtain⟨q,hq⟩:∃ q,ks[j/2]?=some q:=⟨_,List.getElem?_eq_getElem hd⟩;have h1:=Zfs Zdd 2 (fun _=>rfl) ks (j/2) (j%2) q hq hm;have h2:=Zkz ks hq (j%2) hm;rw[<- e] at h1 h2;rw[h1,h2];obtain h0|h0:j%2=0\/j%2=1:=by omega
 . rw[h0];rfl
 . rw[h0];rfl
theorem Zp3 {n:Nat}{w:World}{g cap:Nat}{ks:List (Nat×Nat)}(hg:n<=g)(h:Go.Sort.HoldsK Zdd 2 w g 0 ks.toArray):Ybt n w (.slice (some ⟨g,0,none⟩) ks.length cap) ks:=by
 refine⟨_,_,rfl,fun j q hq=>⟨g,rfl,hg,?_,?_⟩⟩
 . have hj:=(List.getElem?_eq_some_iff.1 hq).1;have h1:=(h (j*2) (by simp;omega)).1;have h2:=Zkz ks hq 0 (by omega);rw[Nat.add_zero] at h2;rw[Nat.zero_add] at h1;rw[h1,h2];rfl
 . have hj:=(List.getElem?_eq_some_iff.1 hq).1;have h1:=(h (j*2+1) (by simp;omega)).1;have h2:=Zkz ks hq 1 (by omega);rw[Nat.zero_add] at h1;rw[h1,h2];rfl
theorem Ybc {f:Nat×Nat->Option Nat}{W w:World}{v:Value}{ks:List (Nat×Nat)}{oG:Own}{Bx t mb:Nat}{lm:List ((Nat×Nat)×Value)}(row:RowR oG w .slots 257 2 v ks.length (ks.flatMap Zdd))(hlen:ks.length<1000000000)(hlow:Below W.heap.size W w)
 (cB:W.cell? ⟨Bx,0,none⟩=some (.pointer (some ⟨t,0,none⟩))) (cT:W.cell? ⟨t,0,none⟩=some (.map (some mb))) (ge:∀ k r,oG k=some r->W.heap.size<=k) (lt:Zah oG w) (hmap:∀ W':World,W'.heap[mb]?=W.heap[mb]?->Za5 W' mb encE lm) (hget:∀ k,getL lm k=(f k).map (fun(id:Nat)=>Value.int .i64 id))
 (lB:Bx<W.heap.size) (lT:t<W.heap.size) (lM:mb<W.heap.size) :
 Calls prog 212 #[v,.func (.func 213) #[] #[.pointer (some ⟨Bx,0,none⟩)]] w fun e w'=>e=.returned (.tuple #[])/\∃ ks':List (Nat×Nat),ks'.Perm ks/\Ybt W.heap.size w' v ks'/\Below W.heap.size W w':=by
 rcases row.ex with ⟨rfl,h0⟩|⟨g,cap,cur,rfl,g1,hg,_⟩
 ·have hk:ks=[]:=List.eq_nil_of_length_eq_zero h0;subst hk;have g0:=AnyF.slices_SortFunc_none Tryz.sortKeys none 0 (.func (.func 213) #[] #[.pointer (some ⟨Bx,0,none⟩)]) w
  change Calls prog 212 _ _ _ at g0
  refine g0.mono ?_;rintro e w' ⟨rfl,rfl⟩;exact⟨rfl,[],List.Perm.refl _,⟨none,0,rfl,fun j q h=>by simp at h⟩,hlow⟩
 . have h1:=ge g _ g1;refine(Zry (f:=f) (Zuy row) (lt g _ g1) hlen ((hlow.cell (p:=⟨Bx,0,none⟩) lB).trans cB) ((hlow.cell (p:=⟨t,0,none⟩) lT).trans cT) (hmap w (hlow.block mb lM)) hget (by omega) (by omega) (by omega)).mono ?_;rintro e w' ⟨rfl,ks',hp,hh,hs,e1,e2,e3,hk⟩;have:=hp.length_eq;refine⟨rfl,ks',hp,?_,⟨e1.trans hlow.os,e2.trans hlow.tape,e3.trans hlow.output,Nat.le_trans hlow.size hs,fun b hb=>(hk b (Nat.lt_of_lt_of_le hb hlow.size) (by omega)).trans (hlow.block b hb)⟩⟩;rw[<- this];exact Zp3 h1 hh
theorem Zv1 {F:Fence}{n:Nat}{P:Program}{c:Code}{Q:Exit->Act->World->Prop}{a:Act}{w:World}(R:World->Prop)(h:∃ A,c.wpIn F n P (fun e a' W'=>match e with|.normal=>a'=A/\R W'|_=>False) a w/\∀ W',R W'->Q .normal A W'):c.wpIn F n P Q a w:=by
 obtain⟨A,h1,h2⟩:=h;refine wpIn_mono h1 ?_;intro e a' W' h;cases e with
 | normal=>obtain⟨rfl,h3⟩:=h;exact h2 _ h3
 | _=>exact h.elim
structure YS (n₀:Nat)(W w2:World)(Bx t:Nat)(ak:Option Addr)(ks:List (Nat×Nat))(M M1:Nat->Prop)(wr:World):Prop where
 low:Below n₀ W wr
 box:wr.cell? ⟨Bx,0,none⟩=some (.pointer (some ⟨t,0,none⟩))
 keys:∀ j q,ks[j]?=some q->∃ g,ak=some ⟨g,0,none⟩/\W.heap.size<=g/\g<w2.heap.size/\wr.cell? ⟨g,j*2,none⟩=some (.int .i64 q.1)/\wr.cell? ⟨g,j*2+1,none⟩=some (.int .i64 q.2)
 nb:¬ M1 Bx
 sub:∀ k,M1 k->M k\/w2.heap.size<=k
 lt:∀ k,M k->k<W.heap.size
 ge:∀ k,M1 k->n₀<=k
 wr:Wr (fun k=>n₀<=k) w2 wr
theorem YS.go {n₀:Nat}{W w2:World}{Bx t:Nat}{ak:Option Addr}{ks:List (Nat×Nat)}{M M1 M2:Nat->Prop}{wr wx w':World}(h:YS n₀ W w2 Bx t ak ks M M1 wr)(hn:n₀<=W.heap.size)(hx:Below wr.heap.size wr wx)(hw:Wr M1 wx w')(hM:∀ k,M2 k->M1 k\/wx.heap.size<=k):YS n₀ W w2 Bx t ak ks M M2 w':=by
 have s0:=h.low.size;have s1:=h.wr.size;have s2:=hx.size;have keep:∀ {b k:Nat} {v:Value},wr.cell? ⟨b,k,none⟩=some v->¬ M1 b->w'.cell? ⟨b,k,none⟩=some v:=fun {b k v} hc hb=>by
  have g0:b<wr.heap.size:=Zab hc;exact(World.cell?_of_block (w:=wx) (a:=⟨b,k,none⟩) (hw.keep b (by omega) hb)).trans ((hx.cell (p:=⟨b,k,none⟩) g0).trans hc)
 refine⟨h.low.trans ((hx.mono (by omega)).trans (hw.below h.ge (by omega))),keep h.box h.nb,fun j q hq=>?_,fun e=>?_,fun k hk=>?_,h.lt,fun k hk=>?_,h.wr.trans ((Wr.of_below hx (fun k=>n₀<=k)).trans hw (fun _ _ e=>e) (fun k _ hk=>h.ge k hk)) (fun _ _ e=>e) (fun _ _ e=>e)⟩
 ·obtain⟨g,e,a1,a2,a3,a4⟩:=h.keys j q hq;have hg:¬ M1 g:=fun hg=>by
   rcases h.sub g hg with h1|h1
   . have:=h.lt g h1;omega
   . omega
  exact⟨g,e,a1,a2,keep a3 hg,keep a4 hg⟩
 ·rcases hM Bx e with h1|h1
  . exact h.nb h1
  . have:=Zab h.box;simp at this;omega
 ·rcases hM k hk with h1|h1
  . exact h.sub k h1
  . right;omega
 ·rcases hM k hk with h1|h1
  . exact h.ge k h1
  . omega
theorem Zmf (n n₀ Bx t v:Nat){o:Own}{w0:World}{f:Nat×Nat->Option Nat}(ht:Zc2 o w0 v t f)(hlt:Zah o w0)(h0:w0.heap.size<=n₀)(w:World)(hw:Below n₀ w0 w)(hn0:n₀<=w.heap.size)(hBn:n₀<=Bx)(hBp:w.cell? ⟨Bx,0,none⟩=some (.pointer (some ⟨t,0,none⟩)))
 (hcard:∀ l:List ((Nat×Nat)×Value),(l.map Prod.fst).Nodup->(∀ k,getL l k=(f k).map (fun(id:Nat)=>Value.int .i64 id))->l.length<1000000000) :
 Ybs Fence.wide n 0 prog 211 #[.pointer (some ⟨Bx,0,none⟩)] (fun p:(Nat×Nat)×Nat=>#[encE p.1,.int .i64 p.2]) n₀ (· = Bx) (fun xs=>(xs.map Prod.fst).Nodup/\∀ k id,(k,id)∈xs↔f k=some id) w:=by
 intro l J M W gU gV gl h5 hY hJ;have k4:Bx<W.heap.size:=Nat.lt_of_lt_of_le (Zab hBp) gl.size;have gb:Below n₀ w0 W:=hw.trans (gl.below (fun k h=>h.1) hn0);have cB:W.cell? ⟨Bx,0,none⟩=some (.pointer (some ⟨t,0,none⟩)):=(World.cell?_of_block (w:=w) (a:=⟨Bx,0,none⟩) (gl.keep Bx (Zab hBp) (fun h=>h.2 rfl))).trans hBp;obtain⟨mb,lm,h1,h2,h3,h4⟩:=ht.ex;have hW:t<w0.heap.size:=(Array.getElem?_eq_some_iff.1 h1).1;have hT:W.heap[t]?=some (.cells #[.map (some mb)] 234 (0,0)):=(gb.block t (by omega)).trans h1;have cT:=cell1 hT;have hZ:mb<w0.heap.size:=h3.lt;obtain⟨es,clock,gM,gj,g9,gz⟩:=h3.ex;have hM:W.heap[mb]?=some (.map es clock):=(gb.block mb (by omega)).trans gM;have gJ:=run_range_map (P:=prog) W 232 _ _ mb es clock underlying232 hM;obtain⟨W1,gm⟩:∃ W1,W1=W.alloc (.mapIter (some mb) clock #[] clock):=⟨_,rfl⟩;have gS:Below W.heap.size W W1:=by rw[gm];exact Zaf _ _
 have gP:W1.heap[W.heap.size]?=some (.mapIter (some mb) clock #[] clock):=by rw[gm];exact heap_alloc_new _ _
 rw[<- gm] at gJ;have gN:mb<W.heap.size:=by have:=gb.size;omega
 have gw:es.size<1000000000:=by
  have e1:=congrArg List.length gj;have e2:=hcard lm h3.nodup h4;simp at e1;omega
 have hn:=Hd gw;have gC:Hid (∀ W',W'.heap[mb]?=W.heap[mb]?->Za5 W' mb encE lm):=Hd fun W' hh=>⟨⟨es,clock,hh.trans hM,gj,g9,gz⟩,h3.nodup⟩
 have gc:=Hd h4;have hL:=Hd (hcard lm h3.nodup h4);have hH:=Hd h3.nodup;have HM:=Hd hM;have gG:=Hd g9;have hc:=Hd gz;have hb:=Hd gj;have hU:=Hd gS;have ha:=Hd gP;have HJ:=Hd hJ;have hI:=Hd (h5 Bx rfl);have HY:=Hd hY;have h7:=Hd gU;have h8:=Hd gV;obtain⟨r,hr⟩:∃ r,r=W.heap.size:=⟨_,rfl⟩;rw[<- hr] at gJ ha;have HR:=Hd hr;clear hcard gw hJ hY gU gV gS gP gm hM g9 gz gj h1 h2 h3 h4 hT gM ht gl h5 hw hr;refine callsIn_of_wp func211 rfl trivial ?_ rfl;refine wpIn_wide.2 ?_;simp only[ntmps211,List.size_toArray,List.length_cons,List.length_nil,Nat.reduceAdd,Nat.reduceSub,Array.replicate_succ,Array.replicate_zero,List.push_toArray,List.append_toArray,List.nil_append,List.cons_append];go_wp2_with fail
 go_loopg [3] (leftOf es #[]).size (fun gk s3 wr=>∃ seen ks sl oG,KeyS W mb r clock es seen ks sl s3 oG wr/\gk=(leftOf es seen).size)
 case atStart=>exact⟨#[],[],[],fun _=>none,⟨hU.out,ha.out,Zkn.start es clock,RowR.nil _ _ _ _ _,fun k q h=>(by cases h),fun k q h=>(by cases h),rfl,by have h:(leftOf es #[]).size<=es.size:=(by unfold leftOf;exact Array.size_filter_le);simpa using h⟩,rfl⟩
 case round =>
  obtain⟨seen,ks,sl,oG,hS,gv⟩:=hrel;have gn:=(hS.low.block mb gN).trans HM.out;have g8:ks.length<1000000000:=by have:=hS.cnt;have:=hn.out;omega
  rcases run_next_at (P:=prog) wr 0 r mb clock clock seen es clock hS.it gn gG.out (Nat.le_refl _) with ⟨hz,g4⟩|⟨e,he,w1,g6,g4⟩
  ·have gh:=hS.came.keysOf (w:=W) (b:=mb) hc.out hz hb.out;have gg:=Ybc hS.row g8 (hS.low.trans (Below.refl _ _)) cB cT (fun k q h=>(hS.ge k q h).2) hS.lt gC.out gc.out (Zab cB) (Zab cT) gN;have gF:=Hd gh;have gE:=Hd gg;clear hS hz gh gg;go_wp2_with fail;refine gE.out.mono ?_;rintro x w2 ⟨rfl,ks',hp,ho,g5⟩;obtain⟨ak,ck,rfl,ga⟩:=ho;have HP:=Hd (hp.trans gF.out);have hQ:=Hd ga;have HB2:=Hd g5;have gZ:J [] M w2:=h8.out _ _ _ _ HJ.out ⟨g5.os,g5.tape,g5.output,g5.size,fun k hk _=>g5.block k hk⟩;have hO:=Hd gZ;clear hp ga g5 gZ g4 gn g8 gv;go_wp2_with fail;refine(wpIn_wide (n:=n)).1 ?_;obtain⟨xs,gt⟩:∃ xs,xs=ks'.map (fun k=>(k,(f k).getD 0)):=⟨_,rfl⟩;have gi:=Zxd HP.out hH.out gc.out gt;have k0:ks'.length<1000000000:=by have h1:=HP.out.length_eq;have h2:=hL.out;simp at h1;omega
   have h6:=Hd gt;have gs:=Hd gi;have gH:YS n₀ W w2 Bx t ak ks' M M w2:=by
    refine⟨HB2.out.mono (by omega),(HB2.out.cell (p:=⟨Bx,0,none⟩) (Zab cB)).trans cB,fun j q hq=>?_,hI.out,fun k h=>.inl h,fun k hk=>(h7.out _ _ _ HJ.out k hk).2,fun k hk=>(h7.out _ _ _ HJ.out k hk).1,Wr.refl _ _⟩;obtain⟨g,a1,a2,a3,a4⟩:=hQ.out j q hq;exact⟨g,a1,a2,Zab a3,a3,a4⟩
   have hB:=Hd gH;have hX:prog.follows .mixedOrders=true:=by kernel_rfl
   clear gt gi gH
   gi_loopw [27] (fun i wr=>∃ (k:Nat) (M1:Nat->Prop),k<=ks'.length/\i=.int .i64 k/\J (xs.take k) M1 wr/\YS n₀ W w2 Bx t ak ks' M M1 wr) (fun i _=>ks'.length-(intOf i).toNat)
   case atStart=>exact⟨0,M,Nat.zero_le _,rfl,hO.out,hB.out⟩
   case round =>
    obtain⟨k,M1,hk,rfl,gq,hS⟩:=hrel
    by_cases gu:k<ks'.length
    ·obtain⟨q,hq⟩:∃ q,ks'[k]?=some q:=⟨_,List.getElem?_eq_getElem gu⟩;obtain⟨g,hA,hv,hu,e0,e1⟩:=hS.keys k q hq;subst hA;have k3:(k:Int)<ks'.length:=by omega
     have cB3:=hS.box;have cT3:=(hS.low.cell (p:=⟨t,0,none⟩) (by show t<n₀;omega)).trans cT;obtain⟨w3,g0⟩:∃ w3,w3=wr.alloc (.cells #[.int .i64 q.1,.int .i64 q.2] 257):=⟨_,rfl⟩;have g2:Below wr.heap.size wr w3:=by rw[g0];exact Zaf _ _
     have gY:J (xs.take k) M1 w3.drew:=h8.out _ _ _ _ gq (by
      have:=(Wr.of_below g2 (fun k=>n₀<=k/\¬ M1 k)).drew;exact this)
     have g7:=Ybd (G:=fun xs:List ((Nat×Nat)×Nat)=>(xs.map Prod.fst).Nodup/\∀ k id,(k,id)∈xs↔f k=some id) gs.out (k:=k) (x:=(q,(f q).getD 0)) (by rw[h6.out,List.getElem?_map,hq];rfl);obtain⟨suf,g7,gf⟩:=g7;obtain⟨fn,tmps,assign,body,hy,gT⟩:=HY.out _ (q,(f q).getD 0) M1 w3.drew gY ⟨suf,g7⟩;have hg:mb<n₀:=by omega
     have gD:=Yew (gC.out w3.drew ((g2.block mb (by have:=hS.low.size;omega)).trans (hS.low.block mb hg))) gc.out q;have gR:w3.heap[wr.heap.size]?=some (.cells #[.int .i64 q.1,.int .i64 q.2] 257 (0,0)):=by rw[g0];exact heap_alloc_new _ _
     obtain⟨x0,x1,_⟩:=cells2 gR;have b3:=(g2.cell (p:=⟨Bx,0,none⟩) (Zab cB3)).trans cB3;have t3:=(g2.cell (p:=⟨t,0,none⟩) (Zab cT3)).trans cT3;simp only[encE] at hy;have hF:=Hd gT;have HS:=Hd hS;have hd:=Hd g2;have hC:=Hd gf;have gB:Hid (_=w3):=Hd g0.symm;obtain⟨b6,gA⟩:∃ b6,b6=wr.heap.size:=⟨_,rfl⟩;have hR:Hid (_=b6):=Hd gA.symm;rw[<- gA] at x0 x1;clear gR hS g2 gY gq g7 gT gf g0 gA gu hv hu hq cB3 cT3
     gi_wp2
     rw[gB.out,hR.out];refine Zv1 (fun W'=>∃ M3,J (xs.take k++[(q,(f q).getD 0)]) M3 W'/\Wr M1 w3.drew W'/\∀ k,M3 k->M1 k\/w3.drew.heap.size<=k) ?_;apply Exists.intro;refine⟨?_,?_⟩
     ·gi_region_with_o (refine⟨fun h=>(by cases h),hF.out.mono ?_⟩;rintro e W4 ⟨rfl,M3,gr,gd,gp⟩)
      all_goals exact⟨rfl,M3,gr,gd,gp⟩
     ·rintro W4 ⟨M3,gr,gd,gp⟩;have hN:=Hd gr;have hE:=Hd (HS.out.go (by omega) (hd.out.trans ((Zag w3 1).mono hd.out.size)) gd gp);clear gr gd gp x0 x1 b3 t3 e0 e1 gD hy
      gi_wp2
      go_roundw
      case rel=>exact⟨k+1,M3,by omega,by go_num,by rw[hC.out];exact hN.out,hE.out⟩
      case measure=>simp[intOf];omega
    ·obtain rfl:k=ks'.length:=by omega
     have h9:=Hd gq;have HS:=Hd hS;clear gq hS
     gi_wp2
     go_end0;have ht:xs.take ks'.length=xs:=List.take_of_length_le (by rw[h6.out];simp);rw[ht] at h9;exact⟨⟨_,rfl⟩,xs,M1,gs.out,h9.out,(Wr.of_below HB2.out (fun k=>n₀<=k)).trans HS.out.wr (fun _ _ e=>e) (fun _ _ e=>e),fun k hk=>(HS.out.sub k hk).imp id fun h=>Nat.le_trans HB2.out.size h⟩
  ·have gy:=(mem_left he).1;obtain⟨q,hq⟩:∃ q,e.key=encE q:=by
    have h1:(e.key,e.val)∈es.toList.map (fun e=>(e.key,e.val)):=List.mem_map.2 ⟨e,gy,rfl⟩;rw[hb.out] at h1;obtain⟨p,_,h2⟩:=List.mem_map.1 h1;exact⟨p.1,(Prod.mk.inj h2).1.symm⟩
   obtain⟨w2,g3⟩:∃ w2,w2=setBlock w1 r (.mapIter (some mb) clock (seen.push e.born) clock):=⟨_,rfl⟩;have hf:=g3;obtain⟨w3,g0⟩:∃ w3,w3=w2.alloc (.cells #[.int .i64 q.1,.int .i64 q.2] 257):=⟨_,rfl⟩;have g2:Below w2.heap.size w2 w3:=by rw[g0];exact Zaf _ _
   obtain⟨row3,lt3⟩:=hS.row3 g6 g3 g2;have z2:w2.heap.size=wr.heap.size:=by rw[g3];rcases g6 with rfl|rfl<;>simp[setBlock]
   have gI:r<wr.heap.size:=(Array.getElem?_eq_some_iff.1 hS.it).1;have gL:mb≠r:=by have:=HR.out;omega
   have gX:w2.heap[mb]?=some (.map es clock):=by rw[g3];rcases g6 with rfl|rfl<;>simp[setBlock,Array.getElem?_setIfInBounds,Ne.symm gL]<;>exact gn
   have i2:w2.heap[r]?=some (.mapIter (some mb) clock (seen.push e.born) clock):=by rw[g3];rcases g6 with rfl|rfl<;>simp[setBlock,gI]
   have gx:=run_entry_at (P:=prog) w2 r mb clock seen es clock e i2 gX gy hc.out;have hG:Hid (∀ (g1 k1:Nat) (w4:World) (o1:Own),RowR o1 w4 .slots 257 2 (.slice (some ⟨g1,0,none⟩) (ks.length+1) k1) (ks.length+1) (ks.flatMap Zdd++Zdd q)->Chg (· = .slots) oG o1 w3 w4->Zah o1 w4->KeyS W mb r clock es (seen.push e.born) (ks++[q]) (sl++[e]) (.slice (some ⟨g1,0,none⟩) (ks.length+1) k1) o1 w4) :=
    Hd fun g1 k1 w4 o1 a b c=>hS.next (by have:=HR.out;omega) he hq g6 g3 g2 a b c
   have hD:=Hd (left_shrinks es seen e he);have cB2:w3.cell? ⟨w2.heap.size,0,none⟩=some (.int .i64 q.1):=by rw[g0,cell_of_row _ _ 0 _ _ _ (heap_alloc_new w2 _)];rfl
   have cB3:w3.cell? ⟨w2.heap.size,1,none⟩=some (.int .i64 q.2):=by rw[g0,cell_of_row _ _ 1 _ _ _ (heap_alloc_new w2 _)];rfl
   have hP:=Hd gv;have hm:=Hd g8;have hi:=Hd row3;have hj:=Hd lt3;rw[hq] at g4 gx;rw[<- g3] at g4;unfold encE at g4 gx;have gB:Hid (_=w3):=Hd g0.symm;clear hS he gy hq g6 g3 hf g0 g2 row3 lt3 z2 gI gL gX i2 gn gv g8;go_upto_region 5 with fail;rw[gB.out]
   go_wp2_with (at_builtin
                refine Zdr (wr:=w3) 283 257 2 16 _ underlying283 Ydj rfl (by decide) rfl _ _ rfl rfl rfl rfl rfl rfl (by simp[Value.oneCell']) hi.out hj.out hm.out (by decide) ?_;intro g1 k1 w4 o1 gK gQ gO;have hK:=Hd (hG.out g1 k1 w4 o1 gK gQ gO);clear gK gQ gO)
   go_roundg (leftOf es (seen.push e.born)).size
   case rel=>exact⟨_,_,_,_,hK.out,rfl⟩
   case measure=>have h1:=hD.out;have h2:=hP.out;omega
open Go.RowKit
theorem Zg9:∀ (n:Nat) (l:List Nat),l.Nodup->(∀ x∈l,x<n)->l.length<=n
 | 0,l,_,h=>by
   cases l with
   | nil=>simp
   | cons a l=>have:=h a (by simp);omega
 | n+1,l,hn,h=>by
   by_cases hm:n∈l
   ·have h1:=Zg9 n (l.erase n) (hn.erase n) (fun x hx=>by
     have h2:=h x (List.mem_of_mem_erase hx);have h3:x≠n:=fun e=>by subst e;exact(List.Nodup.not_mem_erase hn) hx
     omega)
    rw[List.length_erase_of_mem hm] at h1;omega
   ·have h1:=Zg9 n l hn (fun x hx=>by
     have h2:=h x hx;have h3:x≠n:=fun e=>by subst e;exact hm hx
     omega)
    omega
theorem Ybf {d:Zac}{x:Nat}(ht:∀ lo hi id,d.tab x (lo,hi)=some id->Zaa d id=some ⟨x,lo,hi⟩){n:Nat}(hlt:∀ i b,Zaa d i=some b->i<n)(hn:n<1000000000)(l:List ((Nat×Nat)×Value))(hnd:(l.map Prod.fst).Nodup)(hf:∀ k,getL l k=(d.tab x k).map (fun(id:Nat)=>Value.int .i64 id)):l.length<1000000000:=by
 have hk:∀ k∈l.map Prod.fst,∃ id,d.tab x k=some id:=fun k hk=>by
  cases h:d.tab x k with
  | some id=>exact⟨id,rfl⟩
  | none =>
    have h1:=Zcw (l:=l) (k:=k);rw[hf k,h] at h1;obtain⟨p,hp,rfl⟩:=List.mem_map.1 hk;exact absurd rfl (h1.1 rfl p hp)
 have g0:(((l.map Prod.fst)).map fun k=>(d.tab x k).getD 0).Nodup:=by
  refine List.pairwise_map.2 (hnd.imp_of_mem ?_);intro a b ha hb g2 e;obtain⟨i,hi⟩:=hk a ha;obtain⟨j,hj⟩:=hk b hb;rw[hi,hj] at e;simp only[Option.getD_some] at e;subst e;have e1:=ht a.1 a.2 _ hi;have e2:=ht b.1 b.2 _ hj;rw[e1] at e2;simp only[Option.some.injEq,BN.mk.injEq,true_and] at e2;exact g2 (Prod.ext e2.1 e2.2)
 have:=Zg9 n _ g0 (fun i hi=>by
  obtain⟨k,g1,rfl⟩:=List.mem_map.1 hi;obtain⟨id,h1⟩:=hk k g1;rw[h1];exact hlt _ _ (ht k.1 k.2 _ h1))
 simp at this;omega
end Go.Proofs.YtgmbklaolcmljaaGreat

namespace Go.Proofs.YtgmbklaolcmljaaGreat
open Go.Proofs.Tryz
open Go.RowKit Go.Shelf
attribute [local go_sem] Oper.semAt_some
theorem Zsk (t:Nat)(w:World):Calls prog 201 #[.pointer (some ⟨t,0,none⟩)] w fun e w'=>e=.returned (.func (.func 211) #[] #[.pointer (some ⟨w.heap.size,0,none⟩)])/\w'=w.alloc (.cells #[.pointer (some ⟨t,0,none⟩)] 189):=by
 have g0:∀ (fn:Fn) (first cap:Array Value) (w:World),(Instr.makeFunc fn first cap).run prog w=.ok (.func fn first cap) w:=fun _ _ _ _=>rfl
 go_enter func201,ntmps201
 go_wp2_with fail;go_ret;exact⟨rfl,rfl⟩
def Zet (d:Zac)(y:Nat)(pre:List ((Nat×Nat)×Nat)):List TN:=(pre.filter (fun p=>Ze5 d y p.2)).map (fun p=>tnOf d y p.2)
structure TurS (d:Zac)(y:Nat)(w:World)(sb:Nat)(pre:List ((Nat×Nat)×Nat))(M:Nat->Prop)(W:World)(v:Value)(oG:Own):Prop where
 mm:∀ k,M k↔(k=w.heap.size\/k=w.heap.size+1\/k=w.heap.size+2\/oG k=some .slots)
 low:Below w.heap.size w W
 boxs:W.heap[w.heap.size]?=some (.cells #[.pointer (some ⟨sb,0,none⟩)] 110 (0,0))
 boxy:W.heap[w.heap.size+1]?=some (.cells #[.int .i64 y] 3 (0,0))
 boxg:W.heap[w.heap.size+2]?=some (.cells #[v] 265 (0,0))
 row:RowR oG W .slots 270 9 v (Zet d y pre).length ((Zet d y pre).flatMap tnV)
 lt:Zah oG W
 ge:∀ k r,oG k=some r->r=.slots/\w.heap.size+3<=k
theorem TurS.no {d:Zac}{y:Nat}{w:World}{sb:Nat}{pre:List ((Nat×Nat)×Nat)}{M:Nat->Prop}{W:World}{v:Value}{oG:Own}(h:TurS d y w sb pre M W v oG)(k:Nat)(hk:k<w.heap.size+3):oG k=none:=by
 cases e:oG k with
 | none=>rfl
 | some r=>have:=(h.ge k r e).2;omega
theorem TurS.minds {d:Zac}{y:Nat}{w:World}{sb:Nat}{pre:List ((Nat×Nat)×Nat)}{M:Nat->Prop}{W W':World}{v:Value}{oG:Own}(h:TurS d y w sb pre M W v oG)(hw:Wr (fun k=>w.heap.size<=k/\¬ M k) W W'):TurS d y w sb pre M W' v oG:=by
 have hk:∀ k,k<W.heap.size->M k->W'.heap[k]?=W.heap[k]?:=fun k h1 h2=>hw.keep k h1 (fun e=>e.2 h2)
 have hm:=h.mm
 refine⟨hm,h.low.trans (hw.below (fun k h=>h.1) h.low.size),(hk _ (Array.getElem?_eq_some_iff.1 h.boxs).1 ((hm _).2 (.inl rfl))).trans h.boxs,(hk _ (Array.getElem?_eq_some_iff.1 h.boxy).1 ((hm _).2 (.inr (.inl rfl)))).trans h.boxy,
  (hk _ (Array.getElem?_eq_some_iff.1 h.boxg).1 ((hm _).2 (.inr (.inr (.inl rfl))))).trans h.boxg,h.row.keep (fun g hg=>hk g (h.lt g _ hg) ((hm g).2 (.inr (.inr (.inr hg))))) (fun _ h=>h),h.lt.mono hw.size,h.ge⟩
theorem Ybj {d:Zac}{y:Nat}{pre:List ((Nat×Nat)×Nat)}{p:(Nat×Nat)×Nat}(h:Ze5 d y p.2=false):Zet d y (pre++[p])=Zet d y pre:=by unfold Zet;rw[List.filter_append];simp[h]
theorem Zzj {d:Zac}{y:Nat}{pre:List ((Nat×Nat)×Nat)}{p:(Nat×Nat)×Nat}(h:Ze5 d y p.2=true):Zet d y (pre++[p])=Zet d y pre++[tnOf d y p.2]:=by unfold Zet;rw[List.filter_append];simp[h]
theorem TurS.skip {d:Zac}{y:Nat}{w:World}{sb:Nat}{pre:List ((Nat×Nat)×Nat)}{M:Nat->Prop}{W:World}{v:Value}{oG:Own}{p:(Nat×Nat)×Nat}(h:TurS d y w sb pre M W v oG)(hp:Ze5 d y p.2=false):TurS d y w sb (pre++[p]) M W v oG :=
 ⟨h.mm,h.low,h.boxs,h.boxy,h.boxg,by rw[Ybj hp];exact h.row,h.lt,h.ge⟩
theorem TurS.add {d:Zac}{y:Nat}{w:World}{sb:Nat}{pre:List ((Nat×Nat)×Nat)}{M:Nat->Prop}{W W1:World}{v v':Value}{oG oG':Own}{p:(Nat×Nat)×Nat}(h:TurS d y w sb pre M W v oG)(hp:Ze5 d y p.2=true)
 (hr:RowR oG' W1 .slots 270 9 v' ((Zet d y pre).length+1) (((Zet d y pre).flatMap tnV)++tnV (tnOf d y p.2))) (hg:Chg (· = .slots) oG oG' W W1) (hl:Zah oG' W1) {n:Nat} (hn:n<=W.heap.size) :
 ∃ M',(∃ v oG,TurS d y w sb (pre++[p]) M' (W1.setCell ⟨w.heap.size+2,0,none⟩ v') v oG)/\Wr (fun k=>M k\/n<=k) W (W1.setCell ⟨w.heap.size+2,0,none⟩ v')/\∀ k,M' k->M k\/n<=k:=by
 have g0:w.heap.size+2<W.heap.size:=(Array.getElem?_eq_some_iff.1 h.boxg).1;have k0:=(hg.alien (by omega) (h.no w.heap.size (by omega))).trans h.boxs;have ky:=(hg.alien (by omega) (h.no (w.heap.size+1) (by omega))).trans h.boxy;have k1:=(hg.alien g0 (h.no (w.heap.size+2) (by omega))).trans h.boxg;have ge':∀ k r,oG' k=some r->r=.slots/\w.heap.size+3<=k:=fun k r hk=>by
  by_cases e:oG' k=oG k
  . rw[e] at hk;exact h.ge k r hk
  ·obtain⟨a1,q,a2,a3⟩:=hg.new k e;rw[hk] at a2;cases a2
   exact⟨a3,by omega⟩
 refine⟨fun k=>k=w.heap.size\/k=w.heap.size+1\/k=w.heap.size+2\/oG' k=some .slots,⟨v',oG',⟨fun k=>Iff.rfl,?_,?_,?_,Zae k1 _,?_,hl.mono (by simp[World.setCell]),ge'⟩⟩,?_,fun k hk=>?_⟩
 . have:Below w.heap.size w W1:=h.low.trans ⟨hg.os,hg.tape,hg.output,hg.size,fun k hk=>hg.alien (Nat.lt_of_lt_of_le hk h.low.size) (h.no k (by omega))⟩;exact this.setCell (p:=⟨w.heap.size+2,0,Option.none⟩) (by show _<=w.heap.size+2;omega) _
 . exact(Zad (by show _≠w.heap.size+2;omega) _).trans k0
 . exact(Zad (by show _≠w.heap.size+2;omega) _).trans ky
 . rw[Zzj hp,List.length_append,List.flatMap_append];simp only[List.length_singleton,List.flatMap_cons,List.flatMap_nil,List.append_nil];exact hr.setCell_other (fun e=>by have:=(ge' _ _ e).2;simp at this) _
 . have:Wr (fun k=>M k\/n<=k) W W1:=⟨hg.os,hg.tape,hg.output,hg.size,fun k hk hm=>hg.block k hk fun r hr e=>hm (.inl ((h.mm k).2 (.inr (.inr (.inr (by rw[hr,e]))))))⟩;exact this.setCell (p:=⟨w.heap.size+2,0,Option.none⟩) (.inl (.inl ((h.mm _).2 (.inr (.inr (.inl rfl)))))) _
 ·rcases hk with hk|hk|hk|hk
  . exact .inl ((h.mm k).2 (.inl hk))
  . exact .inl ((h.mm k).2 (.inr (.inl hk)))
  . exact .inl ((h.mm k).2 (.inr (.inr (.inl hk))))
  ·by_cases e:oG' k=oG k
   . rw[e] at hk;exact .inl ((h.mm k).2 (.inr (.inr (.inr hk))))
   . have:=(hg.new k e).1;right;omega
theorem Ych {d:Zac}{x:Nat}(ht:∀ lo hi id,d.tab x (lo,hi)=some id->Zaa d id=some ⟨x,lo,hi⟩){n:Nat}(hlt:∀ i b,Zaa d i=some b->i<n){xs:List ((Nat×Nat)×Nat)}(hnd:(xs.map Prod.fst).Nodup)(hf:∀ k id,(k,id)∈xs->d.tab x k=some id):xs.length<=n:=by
 have h1:(xs.map Prod.snd).Nodup:=by
  rw[List.nodup_iff_pairwise_ne,List.pairwise_map];rw[List.nodup_iff_pairwise_ne,List.pairwise_map] at hnd;refine hnd.imp_of_mem fun {a b} ha hb g0 e=>g0 ?_
  have q1:=ht _ _ _ (hf a.1 a.2 ha);have q2:=ht _ _ _ (hf b.1 b.2 hb);rw[e,q2] at q1;cases a;cases b
  simp at q1;exact Prod.ext q1.1.symm q1.2.symm
 have h2:=Zg9 n (xs.map Prod.snd) h1 (fun i hi=>by
  obtain⟨q,hq,rfl⟩:=List.mem_map.1 hi;exact hlt _ _ (ht _ _ _ (hf q.1 q.2 hq)))
 simpa using h2
theorem Zmt:(prog.info? 270).map (fun i=>(i.zero,i.size,i.bytes))=some (some (.agg #[.int .i64 0,.int .i64 0,.int .i64 0,.int .i64 0,.int .i64 0,.int .i64 0,.int .i64 0,.int .i64 0,.int .i64 0]),9,72):=by kernel_rfl
theorem Zy9 (N:RN)(ll lh hl hh:Nat):tnV ⟨N,ll,lh,hl,hh⟩=[.int .i64 N.id,.int .i64 N.v,.int .i64 N.lo,.int .i64 N.hi,.int .i64 N.refs,.int .i64 ll,.int .i64 lh,.int .i64 hl,.int .i64 hh]:=rfl
theorem Ybk {o:Own}{w:World}{sb:Nat}{d:Zac}{V:Nat->BF}(h:Zaq o w sb d)(hlt:Zah o w)(hk:Zaj d V)(x y:Nat)(hx:x<d.vars.length) :
 Calls prog 186 #[.pointer (some ⟨sb,0,none⟩),.int .i64 x,.int .i64 y] w fun e w'=>∃ (v:Value) (ids:List Nat),e=.returned v/\ids.Nodup/\(∀ i,i∈ids↔Turns (Zaa d) x y i)/\TRow w' w.heap.size v (ids.map (tnOf d y))/\Below w.heap.size w w':=by
 obtain⟨s,h⟩:=h;obtain⟨gt,ct,hB,gD,hC,hE⟩:=h.tabAt hx;obtain⟨c0,c1,c2,c3,c4,f0⟩:=cells5 h.blk;rw[hB] at c2;obtain⟨t,ht⟩:∃ t,t=s.ts.getD x 0:=⟨_,rfl⟩;rw[<- ht] at gD;have gs:=h.tab x hC;rw[<- ht] at gs;have hv:=Hd gs;have gq:=Hd h;have gr:=Hd hlt;have HK:=Hd hk;clear ht gs;have hZ:(x:Int)<s.ts.length:=by omega
 obtain⟨w1,gA⟩:∃ w1,w1=((w.alloc (.cells #[.pointer (some ⟨sb,0,none⟩)] 110)).alloc (.cells #[.int .i64 y] 3)).alloc (.cells #[.slice none 0 0] 265):=⟨_,rfl⟩;have HW1:Hid (_=w1):=Hd gA.symm;have gp:Below w.heap.size w w1:=by rw[gA];exact((Zaf _ _).alloc (by simp) _).alloc (by simp;omega) _
 have c2':=(gp.cell (p:=⟨sb,2,none⟩) (Zab c2)).trans c2;have ho:=(gp.cell (p:=⟨gt,x,none⟩) (Zab gD)).trans gD;have cB:w1.cell? ⟨w.heap.size,0,none⟩=some (.pointer (some ⟨sb,0,none⟩)):=by rw[gA];exact cell1 ((Below.heap_alloc _ _ _ (by simp;omega)).trans ((Below.heap_alloc _ _ _ (by simp)).trans (heap_alloc_new w _)))
 have HE:=Hd (fun t W=>Zsk t W);clear c0 c1 c2 c3 c4 f0 gD gA;refine(callsIn_wide (n:=9)).1 ?_;refine callsIn_of_wp_marks func186 rfl trivial ?_;refine wpIn_wide.2 ?_;simp only[ntmps186,List.size_toArray,List.length_cons,List.length_nil,Nat.reduceAdd,Nat.reduceSub,Array.replicate_succ,Array.replicate_zero,List.push_toArray,List.append_toArray,List.nil_append,List.cons_append];go_upto_region 2 with fail;rw[HW1.out];go_wp2_with fail;refine(HE.out _ _).mono ?_;rintro e w2 ⟨rfl,hA⟩;go_wp2_with fail;obtain⟨w2',g3⟩:∃ w2',w2'=w1.alloc (.cells #[.pointer (some ⟨t,0,none⟩)] 189):=⟨_,rfl⟩;rw[<- g3];have h3:Below w.heap.size w w2':=by rw[g3];exact gp.alloc gp.size _
 have hs1:w1.heap.size=w.heap.size+3:=by rw[<- HW1.out];simp
 have k3:w2'.heap.size=w.heap.size+4:=by rw[g3];simp[hs1]
 have hO:w2'.heap[w.heap.size]?=some (.cells #[.pointer (some ⟨sb,0,none⟩)] 110 (0,0)):=by rw[g3,<- HW1.out];exact(Below.heap_alloc _ _ _ (by simp<;>omega)).trans ((Below.heap_alloc _ _ _ (by simp<;>omega)).trans ((Below.heap_alloc _ _ _ (by simp)).trans (heap_alloc_new w _)))
 have hL:w2'.heap[w.heap.size+1]?=some (.cells #[.int .i64 y] 3 (0,0)):=by
  rw[g3,<- HW1.out];have h0:=heap_alloc_new (w.alloc (.cells #[.pointer (some ⟨sb,0,none⟩)] 110)) (.cells #[.int .i64 y] 3);rw[World.size_alloc] at h0;exact(Below.heap_alloc _ _ _ (by simp<;>omega)).trans ((Below.heap_alloc _ _ _ (by simp)).trans h0)
 have hP:w2'.heap[w.heap.size+2]?=some (.cells #[.slice none 0 0] 265 (0,0)):=by
  rw[g3,<- HW1.out];have h0:=heap_alloc_new ((w.alloc (.cells #[.pointer (some ⟨sb,0,none⟩)] 110)).alloc (.cells #[.int .i64 y] 3)) (.cells #[.slice none 0 0] 265);rw[World.size_alloc,World.size_alloc] at h0;exact(Below.heap_alloc _ _ _ (by simp)).trans h0
 have h4:w2'.cell? ⟨w1.heap.size,0,none⟩=some (.pointer (some ⟨t,0,none⟩)):=by rw[g3];exact cell1 (heap_alloc_new w1 _)
 have gE:=Ybf (d:=d) (x:=x) (fun lo hi id e=>(HK.out.tab x hx lo hi id).1 e) (n:=1048577) (fun i b e=>by have:=gq.out.tk_lt e;omega) (by omega);have HG:=Hd (Zmf 8 w.heap.size w1.heap.size t x hv.out gr.out (Nat.le_refl _) w2' h3 (by omega) (by omega) h4 gE);clear gE h4 g3 hA c2' ho cB HE hE gp;refine(wpIn_wide (n:=9)).1 ?_;refine Zzp rfl (by omega) (gf:=211) (lb:=#[.pointer (some ⟨w1.heap.size,0,none⟩)]) rfl trivial (enters_of func211 (by kernel_rfl) rfl) HG.out (by omega) (by rintro k rfl;omega) (fun p=>rfl)
  (fun pre M W=>∃ v oG,TurS d y w sb pre M W v oG) ?_ ?_ (fun k=>k=w.heap.size\/k=w.heap.size+1\/k=w.heap.size+2) (by rintro k rfl h;omega) ⟨.slice none 0 0,fun _=>none,(⟨fun k=>by simp,h3,hO,hL,hP,RowR.nil _ _ _ _ _,fun k r h=>(by cases h),fun k r h=>(by cases h)⟩:TurS d y w sb [] _ w2' (.slice none 0 0) (fun _=>none))⟩
  (fun p a' W W1=>a'={ tmps:=#[Value.pointer (some { block:=sb,off:=0 }),Value.int IntKind.i64 ↑x,Value.int IntKind.i64 ↑y,Value.pointer (some { block:=w.heap.size,off:=0 }),undef,Value.pointer (some { block:=w.heap.size+1,off:=0 }),Value.slice none 0 0,Value.pointer (some { block:=w.heap.size+1+1,off:=0 }),undef,Value.int IntKind.i64 ↑p.2,undef,undef,undef,Value.pointer (some { block:=sb,off:=0 }),Value.pointer (some { block:=sb,off:=0 }),Value.pointer (some { block:=sb,off:=2 }),Value.slice (some { block:=gt,off:=0 }) s.ts.length ct,Value.int IntKind.i64 ↑x,Value.pointer (some { block:=gt,off:=x }),Value.pointer (some { block:=t,off:=0 }),Value.func (Fn.func 211) #[] #[Value.pointer (some { block:=w.heap.size+3,off:=0 })],encE p.1,Value.int IntKind.i64 ↑p.2,undef,undef,undef,undef,undef,undef,undef,undef,undef,undef,undef,undef,undef,undef,undef,undef,undef,undef,undef,undef,undef,undef,undef,undef,undef,undef,undef,undef,undef,undef,undef,undef,undef,undef,undef,undef,undef,undef,undef,undef,undef,undef,undef,undef,undef,undef,undef,undef],defers:=[] }) ?_ ?_ ?_ ?_
 ·rintro pre M W ⟨v,oG,hS⟩ k hk;rcases(hS.mm k).1 hk with rfl|rfl|rfl|hg
  . exact⟨Nat.le_refl _,(Array.getElem?_eq_some_iff.1 hS.boxs).1⟩
  . exact⟨by omega,(Array.getElem?_eq_some_iff.1 hS.boxy).1⟩
  . exact⟨by omega,(Array.getElem?_eq_some_iff.1 hS.boxg).1⟩
  . have:=(hS.ge k _ hg).2;exact⟨by omega,hS.lt k _ hg⟩
 . rintro pre M W W' ⟨v,oG,hS⟩ hw;exact⟨v,oG,hS.minds hw⟩
 . intro p a' W W1 W2 l _ h _;exact h
 ·intro l pre p M W K hI hK
  gi_wp2
  exact hK _ _ (Wr.refl _ _) rfl
 ·rintro l pre p a' M W0 W ⟨v,oG,hS⟩ rfl gX k0 ⟨suf,gb,g0⟩;have gB:=Ych (d:=d) (x:=x) (fun lo hi id e=>(HK.out.tab x hx lo hi id).1 e) (n:=1048577) (fun i b e=>by have:=gq.out.tk_lt e;omega) gb (fun k id h=>(g0 k id).1 h);have gC:(Zet d y pre).length<1000000000:=by
   have h1:(Zet d y pre).length<=pre.length:=by unfold Zet;rw[List.length_map];exact List.length_filter_le _ _
   simp at gB;omega
  have gS:=Hd gC;clear gB gC gb;have hp:d.tab x p.1=some p.2:=(g0 p.1 p.2).1 (by simp);obtain⟨i,hi⟩:∃ i,i=p.2:=⟨_,rfl⟩;have gL:Zaa d i=some ⟨x,p.1.1,p.1.2⟩:=(HK.out.tab x hx _ _ _).1 (by rw[hi];exact hp);obtain⟨gV,gN,gG⟩:=Zax gL;rw[gN] at gG;obtain⟨N,hN⟩:∃ N,N=d.pool.nd i:=⟨_,rfl⟩;have gK:=gq.out.below gr.out hS.low;have gM:=gr.out.mono hS.low.size;obtain⟨q0,q1,q2,q3,q4,_⟩:=cells5 gK.blk;have cs:=cell1 hS.boxs;have cy:=cell1 hS.boxy;have h7:=Hd (Zm3 o s.pb d.pool i W gK.pool gM gV);rw[<- hN] at h7 gG;rw[<- hi];have HI:=Hd hi;have HS:=Hd hS;have HN:=Hd hN;have hU:=Hd gG;have h5:=Hd gL;clear hS hi hN gG gL gK gM gV gN hp g0 q0 q2 q3 q4
  gi_wp2
  refine⟨trivial,(CallsIn.inRound l (callsIn_wide.2 h7.out)).mono ?_⟩;rintro e W3 ⟨rfl,go⟩;have cs3:=(go.cell (p:=⟨w.heap.size,0,none⟩) (Zab cs)).trans cs;have cy3:=(go.cell (p:=⟨w.heap.size+1,0,none⟩) (Zab cy)).trans cy;simp only[Zav];have lb0:w.heap.size<W3.heap.size:=Zab cs3;have lb1:w.heap.size+1<W3.heap.size:=Zab cy3;have lb2:w.heap.size+1+1<W3.heap.size:=Nat.lt_of_lt_of_le (Array.getElem?_eq_some_iff.1 HS.out.boxg).1 go.size;have gU:=Hd go;clear go cs cy q1
  gi_wp2
  obtain⟨W4,gg⟩:∃ W4,W4=(W3.alloc (.cells #[.int .i64 N.id,.int .i64 N.v,.int .i64 N.lo,.int .i64 N.hi,.int .i64 N.refs] 236)).alloc (.cells #[.int .i64 N.id,.int .i64 N.v,.int .i64 N.lo,.int .i64 N.hi,.int .i64 N.refs,.int .i64 0,.int .i64 0,.int .i64 0,.int .i64 0] 270):=⟨_,rfl⟩;rw[<- gg];have n4:W4.heap[W3.heap.size]?=some (.cells #[.int .i64 N.id,.int .i64 N.v,.int .i64 N.lo,.int .i64 N.hi,.int .i64 N.refs] 236 (0,0)):=by rw[gg];exact(Below.heap_alloc _ _ _ (by simp)).trans (heap_alloc_new W3 _)
  have t4:W4.heap[W3.heap.size+1]?=some (.cells #[.int .i64 N.id,.int .i64 N.v,.int .i64 N.lo,.int .i64 N.hi,.int .i64 N.refs,.int .i64 0,.int .i64 0,.int .i64 0,.int .i64 0] 270 (0,0)):=by
   rw[gg];have:=heap_alloc_new (W3.alloc (.cells #[.int .i64 N.id,.int .i64 N.v,.int .i64 N.lo,.int .i64 N.hi,.int .i64 N.refs] 236)) (.cells #[.int .i64 N.id,.int .i64 N.v,.int .i64 N.lo,.int .i64 N.hi,.int .i64 N.refs,.int .i64 0,.int .i64 0,.int .i64 0,.int .i64 0] 270);rw[World.size_alloc] at this;exact this
  have gx:Hid (Wr (fun _=>False) W W4):=by rw[gg];exact Hd (((Wr.of_below gU.out (fun _=>False)).alloc _).alloc _)
  have h8:W.heap.size<=W3.heap.size:=gU.out.size;have gw:Below W3.heap.size W3 W4:=by rw[gg];exact(Zaf _ _).alloc (by simp) _
  obtain⟨b1,gP⟩:∃ b1,b1=W3.heap.size:=⟨_,rfl⟩;have cs4:=(gw.cell (p:=⟨w.heap.size,0,none⟩) lb0).trans cs3;have cy4:=(gw.cell (p:=⟨w.heap.size+1,0,none⟩) lb1).trans cy3;have gl:Hid (∀ Wc,Wr (fun _=>False) W Wc->TurS d y w sb pre M Wc v oG):=Hd fun Wc h=>HS.out.minds (h.mono fun k e=>e.elim)
  have gk:Hid (∀ Wc,Wr (fun _=>False) W Wc->Zaq o Wc sb d/\Zah o Wc):=Hd fun Wc h=>⟨⟨s,gq.out.below gr.out (gl.out Wc h).low⟩,gr.out.mono (gl.out Wc h).low.size⟩
  have gu:okE (Zaa d) N.lo/\okE (Zaa d) N.hi:=by
   have e:=hU.out;have h1:=HK.out.dag.okLo _ _ h5.out;have h2:=HK.out.dag.okHi _ _ h5.out;have e1:p.1.1=N.lo:=by have:=congrArg BN.lo e;exact this.symm
   have e2:p.1.2=N.hi:=by have:=congrArg BN.hi e;exact this.symm
   dsimp only at h1 h2;rw[e1] at h1;rw[e2] at h2;exact⟨h1,h2⟩
  have hy:=Hd gu;obtain⟨⟨ll,lh⟩,g6⟩:∃ c,c=cofs d N.lo y:=⟨_,rfl⟩;obtain⟨⟨hl,hh⟩,gF⟩:∃ c,c=cofs d N.hi y:=⟨_,rfl⟩;have gz:=Hd (Zhq (gk.out W4 gx.out).1 (gk.out W4 gx.out).2 HK.out N.lo gu.1 y);rw[<- g6] at gz;have hR:=Hd g6;have h6:=Hd gF;rw[<- gP] at n4 t4 h8 ⊢;clear gg cs3 cy3 gu g6 gF gw gU gP lb0 lb1 lb2;refine⟨trivial,(CallsIn.inRound l (callsIn_wide.2 gz.out)).mono ?_⟩;rintro e W5 ⟨rfl,gd⟩;have lW4:b1+1<W4.heap.size:=(Array.getElem?_eq_some_iff.1 t4).1;have cs5:=(gd.cell (p:=⟨w.heap.size,0,none⟩) (Zab cs4)).trans cs4;have cy5:=(gd.cell (p:=⟨w.heap.size+1,0,none⟩) (Zab cy4)).trans cy4;have n5:=(gd.block b1 (by omega)).trans n4;have t5:=(gd.block (b1+1) lW4).trans t4;have hu:Hid (Wr (fun _=>False) W W5):=Hd (gx.out.trans (Wr.of_below gd (fun _=>False)) (fun _ _ e=>e) (fun _ _ e=>e));have f5:∀ q,W5.frozen? ⟨b1+1,q,none⟩=false:=fun q=>by simp[World.frozen?,t5]
  have k5:W5.cell? ⟨b1+1,5,none⟩=some (.int .i64 0):=by rw[cell_of_row _ _ 5 _ _ _ t5];rfl
  have k6:W5.cell? ⟨b1+1,6,none⟩=some (.int .i64 0):=by rw[cell_of_row _ _ 6 _ _ _ t5];rfl
  have m3:W5.cell? ⟨b1,3,none⟩=some (.int .i64 N.hi):=by rw[cell_of_row _ _ 3 _ _ _ n5];rfl
  have lW5:b1+1<W5.heap.size:=(Array.getElem?_eq_some_iff.1 t5).1;clear gd cs4 cy4 n4 t4 gz lW4
  gi_wp2
  obtain⟨W6,gI⟩:∃ W6,W6=(W5.setCell ⟨b1+1,5,none⟩ (.int .i64 (ll:Nat))).setCell ⟨b1+1,6,none⟩ (.int .i64 (lh:Nat)):=⟨_,rfl⟩;rw[<- gI];have t6:W6.heap[b1+1]?=some (.cells #[.int .i64 N.id,.int .i64 N.v,.int .i64 N.lo,.int .i64 N.hi,.int .i64 N.refs,.int .i64 (ll:Nat),.int .i64 (lh:Nat),.int .i64 0,.int .i64 0] 270 (0,0)):=by
   rw[gI];exact Zae (k:=6) (Zae (k:=5) t5 (.int .i64 (ll:Nat))) (.int .i64 (lh:Nat))
  have gi:Hid (Wr (fun _=>False) W W6):=by rw[gI];exact Hd ((hu.out.setCell (p:=⟨b1+1,5,none⟩) (.inr (by show W.heap.size<=b1+1;omega)) _).setCell (p:=⟨b1+1,6,none⟩) (.inr (by show W.heap.size<=b1+1;omega)) _)
  have gh:=(gl.out W6 gi.out);have cs6:=cell1 gh.boxs;have cy6:=cell1 gh.boxy;have gy:=Hd (Zhq (gk.out W6 gi.out).1 (gk.out W6 gi.out).2 HK.out N.hi hy.out.2 y);rw[<- h6.out] at gy;clear gI cs5 cy5 n5 t5 f5 k5 k6 m3 lW5 gh;refine⟨trivial,(CallsIn.inRound l (callsIn_wide.2 gy.out)).mono ?_⟩;rintro e W7 ⟨rfl,gO⟩;have lW6:b1+1<W6.heap.size:=(Array.getElem?_eq_some_iff.1 t6).1;have t7:=(gO.block (b1+1) lW6).trans t6;have hr:Hid (Wr (fun _=>False) W W7):=Hd (gi.out.trans (Wr.of_below gO (fun _=>False)) (fun _ _ e=>e) (fun _ _ e=>e));have f7:∀ q,W7.frozen? ⟨b1+1,q,none⟩=false:=fun q=>by simp[World.frozen?,t7]
  have k5:W7.cell? ⟨b1+1,5,none⟩=some (.int .i64 (ll:Nat)):=by rw[cell_of_row _ _ 5 _ _ _ t7];rfl
  have k6:W7.cell? ⟨b1+1,6,none⟩=some (.int .i64 (lh:Nat)):=by rw[cell_of_row _ _ 6 _ _ _ t7];rfl
  have k7:W7.cell? ⟨b1+1,7,none⟩=some (.int .i64 0):=by rw[cell_of_row _ _ 7 _ _ _ t7];rfl
  have k8:W7.cell? ⟨b1+1,8,none⟩=some (.int .i64 0):=by rw[cell_of_row _ _ 8 _ _ _ t7];rfl
  have lW7:b1+1<W7.heap.size:=(Array.getElem?_eq_some_iff.1 t7).1;clear gO cs6 cy6 t6 gy lW6;obtain⟨W8,gH⟩:∃ W8,W8=(W7.setCell ⟨b1+1,7,none⟩ (.int .i64 (hl:Nat))).setCell ⟨b1+1,8,none⟩ (.int .i64 (hh:Nat)):=⟨_,rfl⟩;have t8:W8.heap[b1+1]?=some (.cells #[.int .i64 N.id,.int .i64 N.v,.int .i64 N.lo,.int .i64 N.hi,.int .i64 N.refs,.int .i64 (ll:Nat),.int .i64 (lh:Nat),.int .i64 (hl:Nat),.int .i64 (hh:Nat)] 270 (0,0)):=by
   rw[gH];exact Zae (k:=8) (Zae (k:=7) t7 (.int .i64 (hl:Nat))) (.int .i64 (hh:Nat))
  have ga:Hid (Wr (fun _=>False) W W8):=by rw[gH];exact Hd ((hr.out.setCell (p:=⟨b1+1,7,none⟩) (.inr (by show W.heap.size<=b1+1;omega)) _).setCell (p:=⟨b1+1,8,none⟩) (.inr (by show W.heap.size<=b1+1;omega)) _)
  have g2:=Hd (gl.out W8 ga.out);have g8:=cell1 g2.out.boxg;have r0:W8.cell? ⟨b1+1,0,none⟩=some (.int .i64 N.id):=by rw[cell_of_row _ _ 0 _ _ _ t8];rfl
  have r1:W8.cell? ⟨b1+1,1,none⟩=some (.int .i64 N.v):=by rw[cell_of_row _ _ 1 _ _ _ t8];rfl
  have r2:W8.cell? ⟨b1+1,2,none⟩=some (.int .i64 N.lo):=by rw[cell_of_row _ _ 2 _ _ _ t8];rfl
  have r3:W8.cell? ⟨b1+1,3,none⟩=some (.int .i64 N.hi):=by rw[cell_of_row _ _ 3 _ _ _ t8];rfl
  have r4:W8.cell? ⟨b1+1,4,none⟩=some (.int .i64 N.refs):=by rw[cell_of_row _ _ 4 _ _ _ t8];rfl
  have r5:W8.cell? ⟨b1+1,5,none⟩=some (.int .i64 (ll:Nat)):=by rw[cell_of_row _ _ 5 _ _ _ t8];rfl
  have r6:W8.cell? ⟨b1+1,6,none⟩=some (.int .i64 (lh:Nat)):=by rw[cell_of_row _ _ 6 _ _ _ t8];rfl
  have r7:W8.cell? ⟨b1+1,7,none⟩=some (.int .i64 (hl:Nat)):=by rw[cell_of_row _ _ 7 _ _ _ t8];rfl
  have r8:W8.cell? ⟨b1+1,8,none⟩=some (.int .i64 (hh:Nat)):=by rw[cell_of_row _ _ 8 _ _ _ t8];rfl
  have hQ:Hid (_=W8):=Hd gH.symm;have kb:Hid (b1+1<W8.heap.size):=Hd (Array.getElem?_eq_some_iff.1 t8).1;clear gH t8;have tin:tnOf d y i=⟨N,ll,lh,hl,hh⟩:=by
   unfold tnOf;rw[<- HN.out,<- hR.out,<- h6.out]
  have gj:=Hd tin;clear tin
  gi_upto_region 8 with fail
  rw[hQ.out];clear t7 f7 k5 k6 k7 k8 lW7
  by_cases g4:ll≠lh\/hl≠hh
  ·have gJ:Hid (Ze5 d y p.2=true):=Hd (by rw[<- HI.out];unfold Ze5;rw[gj.out];exact decide_eq_true g4);have n1:((ll:Int) != lh)=true\/((ll:Int) != lh)=false:=by cases ((ll:Int) != lh)<;>simp
   have n2:((ll:Int) != lh)=false->((hl:Int) != hh)=true:=fun e=>by
    have k4:(ll:Int)=lh:=by simpa using e
    have h1:ll=lh:=by omega
    have h2:=g4.resolve_left (fun h=>h h1);simp;omega
   rcases n1 with n1|n1
   ·clear n2
    gi_wp2_with (gi_at_builtin
                 refine Zeu (wr:=W8) 265 270 9 72 _ underlying265 Zmt rfl (by decide) rfl _ _ rfl rfl rfl rfl rfl rfl (by simp[Value.oneCell']) g2.out.row g2.out.lt gS.out (by decide) ?_;intro g1 k1 w1 o1 gm g6 gn;have gR:=Hd gm;have gc:=Hd g6;have gT:=Hd gn;clear gm g6 gn;have g5:=(gc.out.alien (Array.getElem?_eq_some_iff.1 g2.out.boxg).1 (g2.out.no _ (by omega))).trans g2.out.boxg;have cg1:=cell1 g5;have fz:∀ k,w1.frozen? ⟨w.heap.size+2,k,none⟩=false:=fun k=>by simp[World.frozen?,g5]
                 clear g8 g5)
    obtain⟨M',a1,a2,a3⟩:=g2.out.add gJ.out (W1:=w1) (v':=.slice (some ⟨g1,0,none⟩) ((Zet d y pre).length+1) k1) (by
     rw[<- HI.out,gj.out,Zy9];exact gR.out) gc.out gT.out (n:=W0.heap.size) (Nat.le_trans gX ga.out.size)
    exact⟨M',a1,Wr.trans ga.out a2 (fun _ _ e=>e.elim) (fun _ _ e=>e),a3⟩
   ·have n3:=n2 n1;clear n2
    gi_wp2_with (gi_at_builtin
                 refine Zeu (wr:=W8) 265 270 9 72 _ underlying265 Zmt rfl (by decide) rfl _ _ rfl rfl rfl rfl rfl rfl (by simp[Value.oneCell']) g2.out.row g2.out.lt gS.out (by decide) ?_;intro g1 k1 w1 o1 gm g6 gn;have gR:=Hd gm;have gc:=Hd g6;have gT:=Hd gn;clear gm g6 gn;have g5:=(gc.out.alien (Array.getElem?_eq_some_iff.1 g2.out.boxg).1 (g2.out.no _ (by omega))).trans g2.out.boxg;have cg1:=cell1 g5;have fz:∀ k,w1.frozen? ⟨w.heap.size+2,k,none⟩=false:=fun k=>by simp[World.frozen?,g5]
                 clear g8 g5)
    obtain⟨M',a1,a2,a3⟩:=g2.out.add gJ.out (W1:=w1) (v':=.slice (some ⟨g1,0,none⟩) ((Zet d y pre).length+1) k1) (by
     rw[<- HI.out,gj.out,Zy9];exact gR.out) gc.out gT.out (n:=W0.heap.size) (Nat.le_trans gX ga.out.size)
    exact⟨M',a1,Wr.trans ga.out a2 (fun _ _ e=>e.elim) (fun _ _ e=>e),a3⟩
  ·have gJ:Hid (Ze5 d y p.2=false):=Hd (by rw[<- HI.out];unfold Ze5;rw[gj.out];exact decide_eq_false g4);have n1:((ll:Int) != lh)=false:=by
    have:ll=lh:=Decidable.byContradiction fun h=>g4 (.inl h)
    simp[this]
   have n2:((hl:Int) != hh)=false:=by
    have:hl=hh:=Decidable.byContradiction fun h=>g4 (.inr h)
    simp[this]
   clear g4
   gi_wp2
   exact⟨M,⟨v,oG,g2.out.skip gJ.out⟩,ga.out.mono (fun _ e=>e.elim),fun k hk=>.inl hk⟩
 ·rintro xs D M W ⟨gb,g0⟩ hD gQ ⟨v,oG,hS⟩ hM hw gv;have g9:=cell1 hS.boxg;have HS:=Hd hS;have k9:=Hd gb;have hW:=Hd g0;have g7:=hS.low;have hX:D<W.heap.size:=(Array.getElem?_eq_some_iff.1 gv).1;have hz:=Hd gv;have ka:=Hd gQ;have HF:Hid (∃ (v':Value) (ids:List Nat),Ending.returned v=.returned v'/\ids.Nodup/\(∀ i,i∈ids↔Turns (Zaa d) x y i)/\TRow (W.putObj D (.deferred none)) w.heap.size v' (ids.map (tnOf d y))/\Below w.heap.size w (W.putObj D (.deferred none))):=by
   refine Hd ⟨v,(xs.filter fun p=>Ze5 d y p.2).map Prod.snd,rfl,?_,fun i=>?_,?_,?_⟩
   ·rw[List.nodup_iff_pairwise_ne,List.pairwise_map];have h1:=gb;rw[List.nodup_iff_pairwise_ne,List.pairwise_map] at h1;refine(h1.sublist List.filter_sublist).imp_of_mem fun {a b} ha hb hH e=>hH ?_
    have q1:=(HK.out.tab x hx a.1.1 a.1.2 a.2).1 ((g0 a.1 a.2).1 ((List.mem_filter.1 ha).1));have q2:=(HK.out.tab x hx b.1.1 b.1.2 b.2).1 ((g0 b.1 b.2).1 ((List.mem_filter.1 hb).1));rw[e,q2] at q1;obtain⟨⟨a1,a2⟩,a3⟩:=a;obtain⟨⟨b1,b2⟩,b3⟩:=b;simp at q1;exact Prod.ext q1.1.symm q1.2.symm
   ·rw[List.mem_map];constructor
    . rintro⟨q,hq,rfl⟩;obtain⟨hG,hF⟩:=List.mem_filter.1 hq;have hn:=(HK.out.tab x hx q.1.1 q.1.2 q.2).1 ((g0 q.1 q.2).1 hG);exact(Zjg HK.out hn rfl).1 hF
    . intro hT;obtain⟨b,hb,gZ,_⟩:=id hT;have ht:=(HK.out.tab x hx b.lo b.hi i).2 (by rw[hb,<- gZ]);exact⟨((b.lo,b.hi),i),List.mem_filter.2 ⟨(g0 _ _).2 ht,(Zjg HK.out hb gZ).2 hT⟩,rfl⟩
   ·have e':((xs.filter fun p=>Ze5 d y p.2).map Prod.snd).map (tnOf d y)=Zet d y xs:=by unfold Zet;rw[List.map_map];rfl
    rw[e'];have hY:=Ych (d:=d) (x:=x) (fun lo hi id e=>(HK.out.tab x hx lo hi id).1 e) (n:=1048577) (fun i b e=>by have:=gq.out.tk_lt e;omega) gb (fun k id h=>(g0 k id).1 h);have hd:(Zet d y xs).length<=1048578:=by
     have h1:(Zet d y xs).length<=xs.length:=by unfold Zet;rw[List.length_map];exact List.length_filter_le _ _
     omega
    obtain⟨ag,cpg,rfl,_⟩:=hS.row.slice;refine⟨hd,ag,cpg,rfl,fun k hk=>?_⟩;obtain⟨g,cp,he,gY,_⟩:=hS.row.shape (by omega);cases he;have hJ:g≠D:=fun e=>gQ ((hS.mm D).2 (.inr (.inr (.inr (e ▸ gY)))))
    refine⟨g,rfl,by have:=(hS.ge g _ gY).2;omega,fun j u hj=>?_⟩;have h9:j<9:=by have:=(List.getElem?_eq_some_iff.1 hj).1;simpa [tnV,rnV] using this
    have hf:=Zfs tnV 9 (fun _=>rfl) (Zet d y xs) k j _ (List.getElem?_eq_getElem hk) h9;have hm:((Zet d y xs).flatMap tnV).length=(Zet d y xs).length*9:=Za7 _ 9 (fun _=>rfl) _;have hc:=hS.row.cell (k*9+j) (by rw[hm];omega);have gF:W.cell? ⟨g,k*9+j,none⟩=some u:=hc.trans (hf.trans hj);exact(World.cell?_of_block (w:=W) (a:=⟨g,k*9+j,none⟩) (World.putObj_heap_other hJ)).trans gF
   . exact⟨g7.os,g7.tape,g7.output,by simpa using g7.size,fun q hq=>(World.putObj_heap_other (by omega)).trans (g7.block q hq)⟩
  clear hS gb g0 gv hM hw gQ g7;go_wp2_with fail;refine⟨by simp,.inl ⟨D,_,rfl,run_takeDeferred hz.out,?_⟩⟩;refine⟨_,results_tmp rfl _ _ _,?_⟩;exact HF.out
open Go.RowKit
structure SwV (d0:Zac)(k x y:Nat):Prop where
 k1:k+1<d0.vars.length
 x:d0.vars.getD k 0=x
 y:d0.vars.getD (k+1) 0=y
section
variable {d0 d d':Zac}{V0 V:Nat->BF}{k x y:Nat}{Wt:List (Nat×Nat)}{gone:Nat->Prop}
theorem SwV.facts (s:SwV d0 k x y)(hk:Zaj d0 V0):x<d0.vars.length/\y<d0.vars.length/\levN d0 x=k/\levN d0 y=k+1/\x≠y:=by
 obtain⟨a1,a2⟩:=hk.vlt k (by have:=s.k1;omega);obtain⟨c1,c2⟩:=hk.vlt (k+1) s.k1;rw[s.x] at a1 a2;rw[s.y] at c1 c2;exact⟨a1,c1,a2,c2,by rintro rfl;omega⟩
structure CutS (d0:Zac)(k x:Nat)(gone:Nat->Prop)(d:Zac):Prop where
 vars:d.vars=(Zeh d0 k).vars
 level:d.level=(Zeh d0 k).level
 pool:d.pool=d0.pool
 counts:d.counts=d0.counts
 dead:d.dead=d0.dead
 tabO:∀ v,v≠x->d.tab v=d0.tab v
 tabX:∀ lo hi id,d.tab x (lo,hi)=some id↔d0.tab x (lo,hi)=some id/\¬ gone id
theorem CutS.start (d0:Zac)(k x:Nat):CutS d0 k x (fun _=>False) (Zeh d0 k):=⟨rfl,rfl,rfl,rfl,rfl,fun _ _=>rfl,fun lo hi id=>by simp[Zeh]⟩
theorem CutS.next (c:CutS d0 k x gone d)(hk:Zaj d0 V0)(hx:x<d0.vars.length){i lo hi:Nat}(hti:d0.tab x (lo,hi)=some i):CutS d0 k x (fun j=>gone j\/j=i) { d with tab:=fun u=>if u=x then putF (d.tab u) (lo,hi) none else d.tab u }:=by
 refine⟨c.vars,c.level,c.pool,c.counts,c.dead,fun v hv=>by dsimp only;rw[if_neg hv];exact c.tabO v hv,fun lo' g0 id=>?_⟩;dsimp only;rw[if_pos rfl];unfold putF
 by_cases e:(lo',g0)=(lo,hi)
 ·cases e;rw[if_pos rfl,hti];constructor
  . intro h;cases h
  . rintro⟨h1,h2⟩;cases h1;exact(h2 (.inr rfl)).elim
 ·rw[if_neg e,c.tabX];constructor
  ·rintro⟨h1,h2⟩;refine⟨h1,fun h3=>?_⟩;rcases h3 with h3|h3
   . exact h2 h3
   . subst h3;have q1:=(hk.tab x hx _ _ _).1 h1;have q2:=(hk.tab x hx _ _ _).1 hti;rw[q1] at q2;cases q2;exact e rfl
  . rintro⟨h1,h2⟩;exact⟨h1,fun h3=>h2 (.inl h3)⟩
theorem CutS.has (c:CutS d0 k x gone d){i lo hi:Nat}(h:d0.tab x (lo,hi)=some i)(hg:¬ gone i):d.tab x (lo,hi)=some i:=(c.tabX _ _ _).2 ⟨h,hg⟩
theorem Zbk.start (c:CutS d0 k x gone d)(hk:Zaj d0 V0)(hx:x<d0.vars.length)(hd:d0.dead=0)(hg:∀ i,Turns (Zaa d0) x y i↔gone i){ps:List (Nat×Nat)}(hw:Zga (d0.tab x) ps Wt):Zbk d0 V0 k x y Wt (Zat d0) (fun _=>False) d V0:=by
 have hn:Zaa d=Zaa d0:=by unfold Zaa;rw[c.pool]
 have he:Zat d=Zat d0:=by unfold Zat;rw[c.pool]
 have hc:Zas d=Zas d0:=by unfold Zas;rw[c.counts]
 refine⟨by rw[hn];exact Zfb.start hk.dag x y,c.vars,c.level,by rw[c.pool],he,⟨by rw[hn,hc,c.pool];exact hk.live.cnt,by rw[hn,hc,c.pool,c.dead];exact hk.live.dead,by rw[hn,c.counts];exact hk.live.has⟩,
  fun v hv g0 lo hi id=>by rw[c.tabO v g0,hn];exact hk.tab v hv lo hi id,fun lo hi id=>by rw[c.tabX,hn,hk.tab x hx,hg],by rw[c.counts];exact hk.clen,fun i hT=>?_,?_⟩
 . obtain⟨b,hb,_⟩:=hT;rw[hc];exact Zkb hk.live hd hb
 ·rw[c.pool];have:(Wt.filter fun κ=>(d.tab x κ).isSome)=[]:=by
   rw[List.filter_eq_nil_iff];intro κ hκ;cases e:d.tab x κ with
   | none=>simp
   | some id =>
     have h1:=((c.tabX κ.1 κ.2 id).1 e).1;have h2:=hw.free κ hκ;rw[h1] at h2;cases h2
  rw[this];rfl
theorem Zbk.congr {E:Nat->Int}{done done':Nat->Prop}(m:Zbk d0 V0 k x y Wt E done d V)(h:∀ i,done i↔done' i):Zbk d0 V0 k x y Wt E done' d V:=by
 have e:done=done':=funext fun i=>propext (h i)
 rw[<- e];exact m
theorem Zy4 (s:SwV d0 k x y)(hk:Zaj d0 V0)(hl:d0.level.length=d0.vars.length)(v:Nat):(Zeh d0 k).level.getD v 0=Zfl (levN d0) x y v:=by
 obtain⟨hx,hy,lx,ly,g0⟩:=s.facts hk;unfold Zeh Zfl levN;dsimp only;rw[s.x,s.y];unfold levN at lx ly;rw[lx,ly];simp only[List.getD,List.getElem?_set,List.length_set]
 by_cases e1:v=x
 . subst e1;rw[if_neg (Ne.symm g0),if_pos rfl,if_pos (by omega),if_pos rfl];rfl
 ·by_cases e2:v=y
  . subst e2;rw[if_pos rfl,if_pos (by omega),if_neg e1,if_pos rfl];rfl
  . rw[if_neg (Ne.symm e2),if_neg (Ne.symm e1),if_neg e1,if_neg e2]
theorem Zm9 (s:SwV d0 k x y)(i:Nat):(Zeh d0 k).vars.getD i 0=if i=k then y else if i=k+1 then x else d0.vars.getD i 0:=by
 have h1:=s.k1;unfold Zeh;dsimp only;rw[s.x,s.y];simp only[List.getD,List.getElem?_set,List.length_set]
 by_cases e1:i=k
 . subst e1;rw[if_neg (by omega),if_pos rfl,if_pos (by omega),if_pos rfl];rfl
 ·by_cases e2:i=k+1
  . subst e2;rw[if_pos rfl,if_pos h1,if_neg e1,if_pos rfl];rfl
  . rw[if_neg (Ne.symm e2),if_neg (Ne.symm e1),if_neg e1,if_neg e2]
theorem Ziu (d0:Zac)(k:Nat):(Zeh d0 k).vars.length=d0.vars.length:=by simp[Zeh]
theorem Zbk.final {done:Nat->Prop}(m:Zbk d0 V0 k x y Wt (Zat d0) done d V)(s:SwV d0 k x y)(hk:Zaj d0 V0)(hl:d0.level.length=d0.vars.length)(hall:∀ i,Turns (Zaa d0) x y i->done i):Zaj d V:=by
 obtain⟨hx,hy,lx,ly,g2⟩:=s.facts hk;have g1:levN d=Zfl (levN d0) x y:=by funext v;unfold levN;rw[m.level];exact Zy4 s hk hl v
 have g0:d.vars.length=d0.vars.length:=by rw[m.vars,Ziu]
 have g3:=m.mid.final hk.dag hx hy (by omega) hall;have g4:∀ v,v<d0.vars.length->(v=x/\Zfl (levN d0) x y v=k+1)\/(v=y/\Zfl (levN d0) x y v=k)\/(v≠x/\v≠y/\Zfl (levN d0) x y v=levN d0 v/\levN d0 v≠k/\levN d0 v≠k+1):=by
  intro v hv
  by_cases e1:v=x
  . subst e1;exact .inl ⟨rfl,by rw[Zh3,ly]⟩
  ·by_cases e2:v=y
   . subst e2;exact .inr (.inl ⟨rfl,by rw[Zh4 _ g2,lx]⟩)
   . exact .inr (.inr ⟨e1,e2,Zlq _ e1 e2,fun h=>e1 (hk.dag.inj v x hv hx (by rw[h,lx])),fun h=>e2 (hk.dag.inj v y hv hy (by rw[h,ly]))⟩)
 refine⟨by rw[g0,g1];exact g3,by rw[m.ext];exact m.live,fun v hv lo hi id=>?_,m.clen,by rw[g0];exact hk.small,fun v hv=>?_,fun i hi=>?_⟩
 ·rw[g0] at hv
  by_cases e:v=x
  . subst e;rw[m.tabX];refine⟨fun h=>h.1,fun h=>⟨h,fun hT=>?_⟩⟩;obtain⟨_,b,hb,g5,_⟩:=m.mid.dn id (hall id hT);rw[h] at hb;cases hb;exact g2 g5
  . exact m.tabO v hv e lo hi id
 ·rw[g0] at hv;rw[g1,m.vars,Zm9 s];rcases g4 v hv with ⟨rfl,e⟩|⟨rfl,e⟩|⟨_,_,e,h1,h2⟩
  . rw[e,if_neg (by omega),if_pos rfl]
  . rw[e,if_pos rfl]
  . rw[e,if_neg h1,if_neg h2];exact hk.inv v hv
 ·rw[g0] at hi ⊢;rw[g1,m.vars,Zm9 s]
  by_cases e1:i=k
  . rw[if_pos e1];exact⟨hy,by rw[Zh4 _ g2,lx,e1]⟩
  ·rw[if_neg e1]
   by_cases e2:i=k+1
   . rw[if_pos e2];exact⟨hx,by rw[Zh3,ly,e2]⟩
   . rw[if_neg e2];obtain⟨h1,h2⟩:=hk.vlt i hi;refine⟨h1,?_⟩;rw[Zlq _ (fun e=>e1 (by rw[<- h2,e,lx])) (fun e=>e2 (by rw[<- h2,e,ly]))];exact h2
structure Zko (d0:Zac)(V0:Nat->BF)(k:Nat)(d':Zac)(V':Nat->BF):Prop where
 ok:Zaj d' V'
 vars:d'.vars=(Zeh d0 k).vars
 level:d'.level=(Zeh d0 k).level
 room:d'.pool.room=d0.pool.room
 dead:d'.dead=0
 val:∀ i,(i=0\/∃ b,Zaa d0 i=some b)->V' i=V0 i
 live:∀ i b,Zaa d0 i=some b->1<=Zat d0 i->∃ b',Zaa d' i=some b'
 ext:∀ i b',Zaa d' i=some b'->Zat d' i=Zat d0 i
theorem Zbk.out {done:Nat->Prop}(m:Zbk d0 V0 k x y Wt (Zat d0) done d V)(hok:Zaj d V)(r:Za4 d d'):Zko d0 V0 k d' V:=by
 refine⟨r.ok hok,r.vars.trans m.vars,r.level.trans m.level,r.room.trans m.room,r.dead,m.mid.ext,fun i b hb he=>?_,fun i b' g0=>by rw[r.ext i b' g0,m.ext]⟩;obtain⟨b',g0⟩:=m.mid.has hb;refine⟨b',?_⟩;rw[r.nodes,if_pos (hok.live.cnt.pos_of_ext g0 (by rw[m.ext];exact he))];exact g0
end
open Go.RowKit
section
variable {d0 d:Zac}{V0 V:Nat->BF}{k x y:Nat}{Wt:List (Nat×Nat)}{E:Nat->Int}{done:Nat->Prop}{o:Own}{w:World}{sb:Nat}
structure SwF (d0:Zac)(V0:Nat->BF)(k x y:Nat):Prop where
 v:SwV d0 k x y
 ok:Zaj d0 V0
 lev:d0.level.length=d0.vars.length
 top:∀ i,Zat d0 i<=549755813888
theorem SwF.facts (f:SwF d0 V0 k x y):x<d0.vars.length/\y<d0.vars.length/\levN d0 x=k/\levN d0 y=k+1/\x≠y:=f.v.facts f.ok
theorem Zbk.acy (m:Zbk d0 V0 k x y Wt E done d V)(f:SwF d0 V0 k x y):Acy (Zaa d) (rkSw d0.vars.length (levN d0) (Zaa d0) x y (Zaa d)):=by
 obtain⟨hx,hy,lx,ly,g0⟩:=f.facts;exact Yds f.ok.dag hx (by omega) m.mid
theorem Zbk.vlen (m:Zbk d0 V0 k x y Wt E done d V):d.vars.length=d0.vars.length:=by rw[m.vars,Ziu]
theorem Zti {o':Own}{w':World}(h:Chg RCnt o o' w w'):Chg Zan o o' w w':=h.mono Zi8
theorem Zs8 (st:Zaq o w sb d)(hlt:Zah o w)(f:SwF d0 V0 k x y)(m:Zbk d0 V0 k x y Wt E done d V){e:Nat}(he:midE d0.vars.length (levN d0) (Zaa d0) (Zaa d) x y e)(hE:∀ i,E i<=549755813898) :
 Calls prog 163 #[.pointer (some ⟨sb,0,none⟩),.int .i64 e] w fun q w'=>q=.returned (.tuple #[])/\∃ d',Zaq o w' sb d'/\Zah o w'/\Zbk d0 V0 k x y Wt (addE E e 1) done d' V/\Zaa d'=Zaa d/\d'.pool=d.pool/\Chg Zan o o w w':=by
 obtain⟨s,st⟩:=st;obtain⟨hx,hy,lx,ly,g0⟩:=f.facts;have ho:=Ztd m.mid he;refine(Zf0 o sb s _ (2*(d0.vars.length-levN d0 x)) w d E e ⟨st,hlt,m.acy f,ho,m.live,fun q b _=>?_,?_⟩).mono ?_
 ·have h1:=hE q;have h2:toE e q<=1:=by unfold toE;split<;>omega
  omega
 ·rcases ho with h0|⟨c,hc⟩
  . exact .inl h0
  . right;have:=Yb9 f.ok.dag hx (by omega) m.mid he hc;omega
 . rintro q w' ⟨cs,dd,rfl,h1,h2,h3,h4,_,h6⟩;exact⟨rfl,_,⟨s,h1⟩,hlt.mono h6.size,m.counts h2 h3 h4 (Nat.le_refl _),rfl,rfl,Zti h6⟩
theorem Zs7 (st:Zaq o w sb d)(hlt:Zah o w)(f:SwF d0 V0 k x y)(m:Zbk d0 V0 k x y Wt E done d V){i e:Nat}{b:BN}(hb:Zaa d0 i=some b)(hbx:b.v=x)(he:e=b.lo\/e=b.hi)(hE:∀ i,E i<=549755813898)(hp:∀ i,0<=E i-toE e i) :
 Calls prog 162 #[.pointer (some ⟨sb,0,none⟩),.int .i64 e] w fun q w'=>q=.returned (.tuple #[])/\∃ d',Zaq o w' sb d'/\Zah o w'/\Zbk d0 V0 k x y Wt (addE E e (-1)) done d' V/\Chg Zan o o w w':=by
 obtain⟨s,st⟩:=st;obtain⟨hx,hy,lx,ly,g3⟩:=f.facts;have g1:okE (Zaa d0) e:=by rcases he with rfl|rfl;exact f.ok.dag.okLo _ _ hb;exact f.ok.dag.okHi _ _ hb
 have g2:levN d0 b.v<lvE d0.vars.length (levN d0) (Zaa d0) e:=by rcases he with rfl|rfl;exact f.ok.dag.lvLo _ _ hb;exact f.ok.dag.lvHi _ _ hb
 have ho:=Zi6 m.mid g1;have g6:=st.pool.top;have g4:=st.pool.room;refine(Zfz o sb s _ (2*(d0.vars.length-levN d0 x)) w d E e ⟨st,hlt,m.acy f,ho,m.live,fun q c hc=>?_,fun q _ _=>hp q,?_⟩).mono ?_
 . have h1:=m.live.cnt.le hc;have h2:=hE q;omega
 ·rcases g1 with h0|⟨c0,g0⟩
  . exact .inl h0
  ·right;rw[Zp7 g0,hbx] at g2;have g5:=f.ok.dag.lt _ (f.ok.dag.var _ _ g0);rcases ho with h0|⟨c,hc⟩
   . rw[h0,f.ok.dag.none0] at g0;cases g0
   ·rcases Zyn m.mid g0 hc with ⟨_,hv,_⟩|⟨_,_,h3,_⟩
    . rw[hv] at g2;omega
    . omega
 . rintro q w' ⟨cs,dd,rfl,h1,h2,h3,h4,_,h6⟩;exact⟨rfl,_,⟨s,h1⟩,hlt.mono h6.size,m.counts h2 h3 h4 (Nat.le_refl _),Zti h6⟩
theorem Zhy {V:Nat->BF}(st:Zaq o w sb d)(hlt:Zah o w)(hk:Zaj d V) :
 Calls prog 185 #[.pointer (some ⟨sb,0,none⟩)] w fun q w'=>q=.returned (.int .i64 d.dead)/\∃ o' d',Zaq o' w' sb d'/\Zah o' w'/\Za4 d d'/\Chg Zan o o' w w':=by
 by_cases h0:d.dead=0
 . refine(Zh8 st h0).mono ?_;rintro q w' ⟨rfl,hb⟩;obtain⟨s,st⟩:=st;exact⟨by rw[h0];rfl,o,d,⟨s,st.below hlt hb⟩,hlt.mono hb.size,Za4.none hk h0,Chg.of_below hb _ _⟩
 . exact Zkt st hlt hk h0
end
open Go.RowKit
section
variable {R:Role->Prop}{o o':Own}{w w':World}
structure Box (o:Own)(w:World)(b:Nat)(O:Obj):Prop where
 blk:w.heap[b]?=some O
 no:o b=none
theorem Box.chg {b:Nat}{O:Obj}(h:Box o w b O)(hc:Chg R o o' w w'):Box o' w' b O :=
 ⟨(hc.alien (Array.getElem?_eq_some_iff.1 h.blk).1 h.no).trans h.blk,hc.alien' (Array.getElem?_eq_some_iff.1 h.blk).1 h.no⟩
theorem Box.cell {b:Nat}{cs:Array Value}{T:TypeId}(h:Box o w b (.cells cs T (0,0)))(i:Nat):w.cell? ⟨b,i,none⟩=cs[i]?:=cell_of_row w b i _ _ _ h.blk
theorem Box.other {b:Nat}{O:Obj}{p:Addr}{u:Value}(h:Box o w b O)(hne:b≠p.block):Box o (w.setCell p u) b O:=⟨(Zad hne _).trans h.blk,h.no⟩
theorem Box.set {b:Nat}{cs:Array Value}{T:TypeId}(h:Box o w b (.cells cs T (0,0)))(i:Nat)(u:Value):Box o (w.setCell ⟨b,i,none⟩ u) b (.cells (cs.setIfInBounds i u) T (0,0)) :=
 ⟨Zae h.blk u,h.no⟩
theorem TRow.chg {base:Nat}{v:Value}{ts:List TN}(h:TRow w base v ts)(hc:Chg R o o' w w')(hn:0<ts.length->∀ g,v.ownBlock=some g->o g=none):TRow w' base v ts:=by
 by_cases hp:0<ts.length
 . exact h.keep fun g _ hg hv=>hc.alien hg (hn hp g hv)
 . obtain⟨a,c,h1,_⟩:=h.ex;exact⟨h.small,a,c,h1,fun k hk=>by omega⟩
theorem TRow.blk {base:Nat}{v:Value}{ts:List TN}(h:TRow w base v ts)(hp:0<ts.length):∀ g,v.ownBlock=some g->base<=g/\g<w.heap.size:=by
 obtain⟨a,c,rfl,h1⟩:=h.ex;obtain⟨g0,rfl,hb,hc⟩:=h1 0 hp;intro g hg;cases hg;exact⟨hb,Zab (hc 0 _ rfl)⟩
end
structure RndI (sb:Nat)(o1:Own)(w1:World)(base:Nat)(v:Value)(ts:List TN)(W:World)(o:Own)(d:Zac):Prop where
 st:Zaq o W sb d
 lt:Zah o W
 row:TRow W base v ts
 no:0<ts.length->∀ g,v.ownBlock=some g->o g=none
 chg:Chg Zan o1 o w1 W
section
variable {sb:Nat}{o1 o o':Own}{w1 W W':World}{base:Nat}{v:Value}{ts:List TN}{d d':Zac}{R:Role->Prop}
theorem RndI.move (h:RndI sb o1 w1 base v ts W o d)(st:Zaq o' W' sb d')(lt:Zah o' W')(hc:Chg R o o' W W')(hR:∀ r,R r->Zan r):RndI sb o1 w1 base v ts W' o' d' :=
 ⟨st,lt,h.row.chg hc h.no,fun hp g hg=>hc.alien' (h.row.blk hp g hg).2 (h.no hp g hg),h.chg.trans (hc.mono hR)⟩
theorem RndI.below (h:RndI sb o1 w1 base v ts W o d)(hb:Below W.heap.size W W'):RndI sb o1 w1 base v ts W' o d :=
 h.move (R:=Zan) (h.st.below h.lt hb) (h.lt.mono hb.size) (Chg.of_below hb _ _) (fun _ h=>h)
theorem RndI.write (h:RndI sb o1 w1 base v ts W o d){b:Nat}(hb:o b=none)(h1:w1.heap.size<=b)(hv:∀ g,0<ts.length->v.ownBlock=some g->g≠b)(i:Nat)(u:Value):RndI sb o1 w1 base v ts (W.setCell ⟨b,i,none⟩ u) o d:=by
 refine⟨h.st.keepR (fun g r hg _=>Zad (by rintro rfl;rw[hb] at hg;cases hg) _) (fun _ _ h=>h),h.lt.mono (by simp[World.setCell]),?_,h.no,h.chg.setCell_new h1 u⟩
 by_cases hp:0<ts.length
 . exact h.row.keep fun g _ _ hg=>Zad (hv g hp hg) _
 . obtain⟨a,c,h2,_⟩:=h.row.ex;exact⟨h.row.small,a,c,h2,fun k hk=>by omega⟩
end
section
variable {d0 d:Zac}{V0 V:Nat->BF}{k x y:Nat}{Wt:List (Nat×Nat)}{E:Nat->Int}{done:Nat->Prop}
theorem Zwe (E:Nat->Int)(a b lo hi:Nat):addE (addE (addE (addE (addE (addE E lo 1) hi 1) a 1) b 1) lo (-1)) hi (-1)=addE (addE E a 1) b 1:=by
 funext i;unfold addE;omega
theorem Zwd (E:Nat->Int)(a b:Nat):addE (addE (addE (addE E a 1) b 1) a (-1)) b (-1)=E:=by
 funext i;unfold addE;omega
theorem Zok {i:Nat}{n:RN}(hk:i<d.pool.at_.length)(ht:d.pool.tk i=true):Zaa { d with pool:=d.pool.setNd i n }=setN (Zaa d) i (bnOf n):=by
 funext j;unfold Zaa setN;rw[Zak.setNd_get hk ht]
 by_cases e:j=i
 . rw[if_pos e,if_pos e];rfl
 . rw[if_neg e,if_neg e]
theorem Zsd {i:Nat}{n:RN}(hk:i<d.pool.at_.length)(ht:d.pool.tk i=true)(he:(n.refs:Int)=Zat d i):Zat { d with pool:=d.pool.setNd i n }=Zat d:=by
 funext j;have hb:Zat d i=((d.pool.nd i).refs:Int):=Zca ht;unfold Zat;have h1:(d.pool.setNd i n).tk j=d.pool.tk j:=rfl;have h2:(d.pool.setNd i n).nd j=if j=i then n else d.pool.nd j:=Zij hk j
 dsimp only;rw[h1,h2]
 by_cases e:j=i
 . subst e;rw[if_pos rfl,he,hb]
 . rw[if_neg e]
theorem Zbk.turned {i lo hi:Nat}{b:BN}{n:RN}(m:Zbk d0 V0 k x y Wt (addE (addE (Zat d0) lo 1) hi 1) done d V)(f:SwF d0 V0 k x y)(hT:Turns (Zaa d0) x y i)(hd:¬ done i)(hb:Zaa d0 i=some b)
 (hlo:midE d0.vars.length (levN d0) (Zaa d0) (Zaa d) x y lo) (hhi:midE d0.vars.length (levN d0) (Zaa d0) (Zaa d) x y hi) (hr:hi%2=0) (hne:lo≠hi) (hV:V0 i=iteF y (ef V hi) (ef V lo))
 (hn:bnOf n=⟨y,lo,hi⟩) (hrf:(n.refs:Int)=Zat d0 i) (hk:i<d.pool.at_.length) :
 d.tab y (lo,hi)=none/\Zbk d0 V0 k x y Wt (addE (addE (Zat d0) b.lo 1) b.hi 1) (fun j=>done j\/j=i) { d with pool:=d.pool.setNd i n,tab:=fun u=>if u=y then putF (d.tab y) (lo,hi) (some i) else d.tab u } V:=by
 obtain⟨hx,hy,lx,ly,g0⟩:=f.facts;have g1:Zaa d i=some b:=m.mid.keep i b hb hd;have ht:=(Zax g1).1;refine⟨m.fresh_y f.ok.dag g0 hy hT hd hV,?_⟩;have h1:=m.set (p':=d.pool.setNd i n) g0 f.ok.dag hy hT hd hb hlo hhi hr hne hV (by rw[Zok hk ht,hn]) (Zsd hk ht (by rw[hrf,m.ext])) rfl rfl (by simp[Zak.setNd]);rw[Zwe] at h1;have e:(fun u=>if u=y then putF (d.tab u) (lo,hi) (some i) else d.tab u)=(fun u=>if u=y then putF (d.tab y) (lo,hi) (some i) else d.tab u):=by
  funext u;by_cases e:u=y
  . subst e;rfl
  . rw[if_neg e,if_neg e]
 rw[e] at h1;exact h1
end
theorem Ybm {sb:Nat}{o1 o:Own}{w1 W:World}{base:Nat}{v:Value}{ts:List TN}{d:Zac}{s:Zaw}(h:RndI sb o1 w1 base v ts W o d)(st:Zal o W sb d s){n:RN}(ht:d.pool.tk n.id=true){O1 O2:Obj}{b1 b2:Nat}(x1:Box o W b1 O1)(x2:Box o W b2 O2) :
 Calls prog 161 #[.pointer (some ⟨s.pb,0,none⟩),Zav n] W fun e w'=>∃ q,e=.returned q/\(q=.int .i64 0/\RndI sb o1 w1 base v ts w' o { d with pool:=d.pool.setNd n.id n }/\Zal o w' sb { d with pool:=d.pool.setNd n.id n } s/\Box o w' b1 O1/\Box o w' b2 O2):=by
 refine(Zh0 o s.pb d.pool n W st.pool h.lt ht).mono ?_;rintro e w' ⟨rfl,hp,hc,g0⟩;have st':=st.setPool h.lt hp (hc.mono (fun r hr=>by simp[Ze7,hr]));exact⟨_,rfl,rfl,h.move ⟨s,st'⟩ g0 hc Zgu,st',x1.chg hc,x2.chg hc⟩
theorem Ybl {sb:Nat}{o1 o:Own}{w1 W:World}{base:Nat}{v:Value}{ts:List TN}{d:Zac}{s:Zaw}(h:RndI sb o1 w1 base v ts W o d)(st:Zal o W sb d s){y lo hi id:Nat}(hy:y<s.ts.length)(hf:d.tab y (lo,hi)=none){O1 O2:Obj}{b1 b2:Nat}(x1:Box o W b1 O1)(x2:Box o W b2 O2) :
 Calls prog 193 #[.pointer (some ⟨s.ts.getD y 0,0,none⟩),.int .i64 lo,.int .i64 hi,.int .i64 id] W fun e w'=>∃ q,e=.returned q/\(q=.int .i64 0/\RndI sb o1 w1 base v ts w' o { d with tab:=fun u=>if u=y then putF (d.tab y) (lo,hi) (some id) else d.tab u }/\Box o w' b1 O1/\Box o w' b2 O2):=by
 refine(Zyj o y (s.ts.getD y 0) (d.tab y) lo hi id W (st.tab y hy) h.lt hf).mono ?_;rintro e w' ⟨rfl,ht,hc,g0⟩;have st':=st.setTab h.lt ht hc;exact⟨_,rfl,rfl,h.move ⟨s,st'⟩ g0 hc (fun r hr=>by simp[Zan,hr]),x1.chg hc,x2.chg hc⟩
structure Yco (d0:Zac)(V0:Nat->BF)(x y i:Nat)(b:BN):Prop where
 node:Zaa d0 i=some b
 v:b.v=x
 lo:(d0.pool.nd i).lo=b.lo
 hi:(d0.pool.nd i).hi=b.hi
 id:(d0.pool.nd i).id=i
 val:Ycp d0 V0 x y i (tnOf d0 y i).ll (tnOf d0 y i).lh (tnOf d0 y i).hl (tnOf d0 y i).hh
 ne:(tnOf d0 y i).ll≠(tnOf d0 y i).lh\/(tnOf d0 y i).hl≠(tnOf d0 y i).hh
theorem Zzk {d0:Zac}{V0:Nat->BF}{k x y i:Nat}{o:Own}{w:World}{sb:Nat}{s:Zaw}(f:SwF d0 V0 k x y)(h:Zal o w sb d0 s)(hT:Turns (Zaa d0) x y i):∃ b,Yco d0 V0 x y i b:=by
 obtain⟨hx,hy,lx,ly,g2⟩:=f.facts;obtain⟨b,hb,g0,g3⟩:=id hT;obtain⟨ht,g1,he⟩:=Zax hb;rw[g1] at he;have e1:(d0.pool.nd i).lo=b.lo:=by rw[<- he];rfl
 have e2:(d0.pool.nd i).hi=b.hi:=by rw[<- he];rfl
 refine⟨b,hb,g0,e1,e2,h.pool.id i ht,?_,?_⟩
 . have:=Zzl f.ok hy (by omega) hb g0;unfold tnOf;rw[e1,e2];exact this
 . have:=(Zjg f.ok hb g0).2 hT;unfold Ze5 at this;exact of_decide_eq_true this
structure Zv2 (d0:Zac)(V0:Nat->BF)(k x y:Nat)(Wt:List (Nat×Nat))(done:Nat->Prop)(i:Nat)(r1 r2:Nat)(d:Zac)(V:Nat->BF):Prop where
 mid:Zbk d0 V0 k x y Wt (Zat d0) done d V
 e1:midE d0.vars.length (levN d0) (Zaa d0) (Zaa d) x y r1
 e2:midE d0.vars.length (levN d0) (Zaa d0) (Zaa d) x y r2
 reg:r2%2=0
 ne:r1≠r2
 val:V0 i=iteF y (ef V r2) (ef V r1)
theorem Zv2.of {d0:Zac}{V0:Nat->BF}{k x y:Nat}{Wt:List (Nat×Nat)}{done:Nat->Prop}{i r1 r2:Nat}{d d1 d2:Zac}{V V1 V2:Nat->BF}{b:BN}(f:SwF d0 V0 k x y)(t:Yco d0 V0 x y i b)
 (h1:Zf6 d0 V0 k x y Wt done d V (tnOf d0 y i).ll (tnOf d0 y i).hl r1 d1 V1) (h2:Zf6 d0 V0 k x y Wt done d1 V1 (tnOf d0 y i).lh (tnOf d0 y i).hh r2 d2 V2):Zv2 d0 V0 k x y Wt done i r1 r2 d2 V2:=by
 obtain⟨hx,hy,lx,ly,g0⟩:=f.facts;obtain⟨k1,k2⟩:=h2.keep r1 h1.edge;obtain⟨q1,q2⟩:=Zv0 (V:=V2) f.ok hx hy g0 (by omega) t.val t.ne (k2.trans h1.val) h2.val;exact⟨h2.mid,k1,h2.edge,h2.reg t.val.reg,q2,q1⟩
theorem Zt6 {d0 d:Zac}{V0 V:Nat->BF}{k x y:Nat}{Wt:List (Nat×Nat)}{E:Nat->Int}{done:Nat->Prop}{ps:List (Nat×Nat)}(m:Zbk d0 V0 k x y Wt E done d V)(f:SwF d0 V0 k x y)(hw:Zga (d0.tab x) ps Wt){lo hi:Nat}(hp:(lo,hi)∈ps)
 (hlo:lowE d0.vars.length (levN d0) (Zaa d0) y lo) (hhi:lowE d0.vars.length (levN d0) (Zaa d0) y hi) (hne:lo≠hi) (ht:d.tab x (bkey lo hi)=none):bkey lo hi∈Wt:=by
 obtain⟨hx,hy,lx,ly,g3⟩:=f.facts;refine hw.has (lo,hi) hp hne ?_
 show d0.tab x (bkey lo hi)=none
 cases e:d0.tab x (bkey lo hi) with
 | none=>rfl
 | some id =>
   exfalso;have hb:=(f.ok.tab x hx _ _ id).1 e;have low:∀ {e:Nat},lowE d0.vars.length (levN d0) (Zaa d0) y e->¬ isV (Zaa d0) y e:=by
    rintro e ⟨_,h2⟩ ⟨c,hc,g1⟩;rw[Zp7 hc,g1] at h2;omega
   by_cases hT:Turns (Zaa d0) x y id
   ·obtain⟨b,g0,g4,g2⟩:=hT;rw[hb] at g0;cases g0;rcases g2 with h|h
    . exact low (Zc7 hlo) h
    . exact low (Zc7 hhi) h
   . have h1:=(m.tabX (bkey lo hi).1 (bkey lo hi).2 id).2 ⟨m.mid.keep id _ hb (fun hd=>hT (m.mid.dn id hd).1),hT⟩;rw[show ((bkey lo hi).1,(bkey lo hi).2)=bkey lo hi from rfl,ht] at h1;cases h1
open Go.RowKit
section
variable {F:Phi}{o:Own}{w:World}{sb mb:Nat}{d:Zac}{m:ManD}
theorem Zop (h:Zaq o w sb d):Calls prog 188 #[.pointer (some ⟨sb,0,none⟩)] w fun x w'=>x=.returned (.int .i64 d.pool.room)/\w=w':=by
 obtain⟨s,h⟩:=h;obtain⟨c0,c1,c2,c3,c4,f0⟩:=cells5 h.blk;have HP:=Hd (Zql o s.pb d.pool w h.pool);clear h
 go_enter func188,ntmps188
 go_wp2_with fail;refine HP.out.mono ?_;rintro x w' ⟨rfl,rfl⟩;go_wp2_with fail;go_ret;exact⟨rfl,rfl⟩
end
section
variable {F:Phi}{o:Own}{w:World}{sb mb:Nat}{d:Zac}{m:ManD}
theorem Zqx (h:Zaq o w sb d):Calls prog 189 #[.pointer (some ⟨sb,0,none⟩)] w fun x w'=>x=.returned (.int .i64 d.pool.many)/\w=w':=by
 obtain⟨s,h⟩:=h;obtain⟨c0,c1,c2,c3,c4,f0⟩:=cells5 h.blk;have HP:=Hd (Zsa o s.pb d.pool w h.pool);clear h
 go_enter func189,ntmps189
 go_wp2_with fail;refine HP.out.mono ?_;rintro x w' ⟨rfl,rfl⟩;go_wp2_with fail;go_ret;exact⟨rfl,rfl⟩
end
end Go.Proofs.YtgmbklaolcmljaaGreat
