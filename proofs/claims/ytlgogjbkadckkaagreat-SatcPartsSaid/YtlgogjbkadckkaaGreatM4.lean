/- Several texts in one file: contracts of the program's functions and what follows from them. -/
import Derived.Test.YtlgogjbkadckkaaGreatM3
import Derived.Maps.RangeRun
import Derived.Shelf.SlSortCmp.WholeK
import Derived.Shelf.SlicesG.Cmp
import Derived.Shelf.SlGeneric
import Derived.Ground.SlsfProg
import Derived.Ground.SlgcProg
import Derived.Test.YtlgogjbkadckkaaGreatProg
import Derived.Shelf.SlSortCmp.NoneTotal
import Derived.Sort.CutIn
set_option linter.unusedSimpArgs false
set_option linter.unusedVariables false
set_option linter.unusedSectionVars false
set_option linter.unnecessarySimpa false
set_option maxRecDepth 100000
set_option maxHeartbeats 8000000
namespace Go.Proofs.YtlgogjbkadckkaaGreat
open Go.RowKit
theorem Zin {P:Program} {o:Oper} {a:Act} {w:World} {K:Act->World->Prop} {Q:Exit->Act->World->Prop} {f:FuncId} {args:Array Value} {R:Value->World->Prop} {R2:List PanicEntry->World->Prop} (he:(execOp a.eval o).run P w=.ok (.enter f args) w)
 (hc:Calls P f args w fun e w'=>(∃ v,e=.returned v/\R v w')\/(∃ ch,e=.panicked ch/\R2 ch w')) (h:∀ v w',R v w'->K (a.put o.dst v) w') (h2:∀ ch w',R2 ch w'->Q (.panic ch) a w'):o.wp P a w K Q:=by
 unfold Oper.wp;simp only[he,Oper.upon];refine hc.mono fun e w' hh=>?_
 rcases hh with ⟨v,h1,h3⟩|⟨ch,h1,h3⟩
 ·
  subst h1;exact h v w' h3
 ·
  subst h1;exact h2 ch w' h3
abbrev C3 (bf bg bh:Nat):Nat->Prop:=fun k=>k=bf\/k=bg\/k=bh
structure B3 (bf bg bh:Nat) (kf kg kh:Int) (W:World):Prop where
 f:W.cell? ⟨bf,0,none⟩=some (.int .i64 kf)
 g:W.cell? ⟨bg,0,none⟩=some (.int .i64 kg)
 h:W.cell? ⟨bh,0,none⟩=some (.int .i64 kh)
theorem B3.keep {bf bg bh:Nat} {kf kg kh:Int} (W W':World) (h:B3 bf bg bh kf kg kh W) (hk:∀ c,C3 bf bg bh c->W'.heap[c]?=W.heap[c]?):B3 bf bg bh kf kg kh W' :=
 ⟨(World.cell?_of_block (w:=W) (a:=⟨bf,0,none⟩) (hk _ (.inl rfl))).trans h.f,(World.cell?_of_block (w:=W) (a:=⟨bg,0,none⟩) (hk _ (.inr (.inl rfl)))).trans h.g,(World.cell?_of_block (w:=W) (a:=⟨bh,0,none⟩) (hk _ (.inr (.inr rfl)))).trans h.h⟩
def Zdc (F G H:BF):BF:=fun ρ=>iteB (F ρ) (G ρ) (H ρ)
def SatX (K:Law) (n:Nat) (Od:List Nat->Prop) (room:Nat) (w0:World) (mb:Nat) (fs:List (Int×BF)) (nx:Int) (m:ManD):Prop:=∃ W o V,SatE K n Od room w0 mb fs nx W o m V
def Zol (lim:Option Nat) (k:Nat) (m:ManD):Prop:=∀ M,lim=some M->m.d.pool.many<=M+k
def QF (ws0:List Ev) (lim:Option Nat) (k:Nat) (F:BF) (_:World) (m':ManD) (V':Nat->BF) (r:Nat):Prop:=ef V' r=F/\m'.waits <:+ ws0/\Zol lim k m'
def EF (A:ManD->Prop) (k:Nat) (ws0:List Ev) (er:Int) (m m':ManD):Prop:=er=7/\A m/\m'.d.pool.many=m'.d.pool.room/\m'.d.pool.many+1<=m.d.pool.many+k/\m'.waits <:+ ws0
abbrev Zj1 (ws0:List Ev) (m:ManD):Prop:=m.waits <:+ ws0
abbrev StL (ws0:List Ev) (lim:Option Nat) (m:ManD):Prop:=Zj1 ws0 m/\Zol lim 0 m
def EL (A:ManD->Prop) (k:Nat) (ws0:List Ev) (lim:Option Nat) (er:Int) (m m':ManD):Prop:=lim=none/\EF A k ws0 er m m'
def Zok (ws0:List Ev) (lim:Option Nat) (k room:Nat):Prop:=∀ M,lim=some M->ws0=[]/\M+k<=room
theorem Zni {ws0:List Ev} {lim:Option Nat} {k room:Nat} {m m':ManD} (h:Zok ws0 lim k room) (h1:Zol lim 0 m) (h2:m'.d.pool.room+1<=m.d.pool.many+k) (h3:m'.d.pool.room=room):lim=none:=by
 cases lim with
 | none=>rfl
 | some M =>
   have:=(h M rfl).2;have:=h1 M rfl;omega
theorem Zw3 {ws0 ws:List Ev} {ev:Ev} {lim:Option Nat} {k k' room:Nat} {m:ManD} (h:Zok ws0 lim k room) (h1:ev::ws <:+ ws0):Zol lim k' m:=fun M e=>by
 have:=(h M e).1;subst this;simp at h1
theorem Zzg {K:Law} (hK:Zc8 K) {n:Nat} {Od:List Nat->Prop} {room:Nat} {w0:World} {mb:Nat} {fs:List (Int×BF)} {nx:Int} (ws0:List Ev) (lim:Option Nat) (hlim:Zok ws0 lim (2^n-1) room) (hhap:∀ ev∈ws0,HapG K n Od room w0 mb fs nx ev) (bf bg bh:Nat) {kf kg kh:Int} {F G H:BF} (hf:(kf,F)∈fs) (hg:(kg,G)∈fs) (hh:(kh,H)∈fs) :
 OpG K n Od room w0 mb fs nx (C3 bf bg bh) (B3 bf bg bh kf kg kh) (StL ws0 lim) 54 #[.pointer (some ⟨bf,0,none⟩),.pointer (some ⟨bg,0,none⟩),.pointer (some ⟨bh,0,none⟩)] (QF ws0 lim (2^n-1) (Zdc F G H)) (EL (SatX K n Od room w0 mb fs nx) (2^n-1) ws0 lim):=by
 intro o W m V xb hsat hB hC hst hcx hnx;obtain⟨f,hf,ef1⟩:=hsat.find hf;obtain⟨g,hg,ef2⟩:=hsat.find hg;obtain⟨h,hh,ef3⟩:=hsat.find hh;have hk:=hsat.ok;have hlt:=hsat.lt;have hks:=hk.store;obtain⟨s,hm⟩:=hsat.is;have hbd:Below W.heap.size W W.drew:=Zah W 1;have hmW:=hm.below hlt hbd;have hlW:=hlt.mono hbd.size;have hxW:Zer o W.drew xb mb:=⟨(hbd.cell (p:=⟨xb,0,none⟩) (Zab hcx.cell)).trans hcx.cell,hcx.own⟩;have df:=(hbd.cell (p:=⟨bf,0,none⟩) (Zab hB.f)).trans hB.f;have dg:=(hbd.cell (p:=⟨bg,0,none⟩) (Zab hB.g)).trans hB.g;have dh:=(hbd.cell (p:=⟨bh,0,none⟩) (Zab hB.h)).trans hB.h;have of:=(hC bf (.inl rfl)).2;have og:=(hC bg (.inr (.inl rfl))).2;have oh:=(hC bh (.inr (.inr rfl))).2;have HEF:=Hd (Zcf ⟨s,hmW⟩ hxW hk.handles.nodup hf);have HEG:=Hd (Zcf ⟨s,hmW⟩ hxW hk.handles.nodup hg);have HEH:=Hd (Zcf ⟨s,hmW⟩ hxW hk.handles.nodup hh);have HITE:=Hd (Zt5 hK n o W.drew xb mb m V f g h ⟨s,hmW⟩ hlW hxW hks (hk.handles.ok _ hf) (hk.handles.ok _ hg) (hk.handles.ok _ hh) (by rw[hsat.vars];omega));obtain⟨P,hP⟩:∃ P:Ending->World->Prop,P=fun e w'=>∃ (o':Own) (m':ManD) (V':Nat->BF),Zhj (C3 bf bg bh) K o W mb m V o' w' m' V'/\B3 bf bg bh kf kg kh w' /\
  ((∃ r:Nat,e=.returned (.int .i64 r)/\okE (Zaa m'.d) r/\QF ws0 lim (2^n-1) (Zdc F G H) w' m' V' r) \/
   (∃ er:Int,e=Zb8 er false ev0/\er≠0/\m'.waits=m.waits/\StL ws0 lim m'/\EL (SatX K n Od room w0 mb fs nx) (2^n-1) ws0 lim er m m') \/
   (∃ ev,e=Zb8 0 true ev/\m.waits=ev::m'.waits/\StE K n Od room w0 mb fs nx (StL ws0 lim) m'/\HapG K n Od room w0 mb fs nx ev)):=⟨_,rfl⟩
 have HFIN:Hid (∀ e w',Zmv K n o W.drew mb m V f g h e w'->(∃ v,e=.returned v/\(w'.cell? ⟨bf,0,none⟩=some (.int .i64 kf)/\w'.cell? ⟨bg,0,none⟩=some (.int .i64 kg)/\w'.cell? ⟨bh,0,none⟩=some (.int .i64 kh))/\P (.returned v) w')\/(∃ ch,e=.panicked ch/\P (.panicked ch) w')):=by
  refine Hd ?_;subst hP;rintro e w' ⟨o',m',V',st,hcase⟩;have hb3:B3 bf bg bh kf kg kh w':=⟨st.chg.cell df of,st.chg.cell dg og,st.chg.cell dh oh⟩;have stx:Zhj (C3 bf bg bh) K o W mb m V o' w' m' V':=Step.toX (K:=K) ⟨st.is,st.lt,(Chg.of_below hbd _ o).trans st.chg,st.ok,st.ext,st.hs,st.next⟩ _;have hp2:0<2^n:=Nat.pow_pos (by omega);rcases hcase with ⟨r,rfl,h1,h2,h3⟩|⟨rfl,h2,h3,h4⟩|⟨ev,rfl,h1⟩
  ·
   refine .inl ⟨_,rfl,⟨hb3.f,hb3.g,hb3.h⟩,o',m',V',stx,hb3,.inl ⟨r,rfl,h1.okR,?_,by rw[h2];exact hst.1,fun M e=>by have:=hst.2 M e;omega⟩⟩;have e1:=(st.ext.ef (hk.handles.ok _ hf)).trans ef1;have e2:=(st.ext.ef (hk.handles.ok _ hg)).trans ef2;have e3:=(st.ext.ef (hk.handles.ok _ hh)).trans ef3;dsimp only at e1 e2 e3;funext ρ;rw[h1.val ρ,e1,e2,e3];rfl
  ·
   have hl0:lim=none:=Zni hlim hst.2 (by rw[<- h3];omega) (by rw[st.ext.room];exact hsat.room);exact .inr ⟨_,rfl,o',m',V',stx,hb3,.inr (.inl ⟨7,rfl,by omega,h2,⟨by unfold Zj1;rw[h2];exact hst.1,by subst hl0;exact fun M e=>by cases e⟩,hl0,rfl,⟨_,_,_,hsat⟩,h3,by omega,by rw[h2];exact hst.1⟩)⟩
  ·
   refine .inr ⟨_,rfl,o',m',V',stx,hb3,.inr (.inr ⟨ev,rfl,h1,?_,?_⟩)⟩
   all_goals
    have hst':m.waits <:+ ws0:=hst.1;rw[h1] at hst'
    first|exact fun _ _ _ _ _ e _ _=>⟨by unfold Zj1;rw[e];exact(List.suffix_cons ev m'.waits).trans hst',Zw3 hlim hst'⟩|exact hhap ev (hst'.subset (List.mem_cons_self ..))
 rw[<- hP];clear hm hks hk hcx hB hC hst hnx hhap hlim hK hlt hf hg hh of og oh hmW hlW hxW hbd hsat hP ef1 ef2 ef3
 go_enter Tryz.func54,Tryz.ntmps54
 go_upto_region 1 with fail;refine Zee (fun W:World=>W.cell? ⟨bf,0,none⟩=some (.int .i64 kf)/\W.cell? ⟨bg,0,none⟩=some (.int .i64 kg)/\W.cell? ⟨bh,0,none⟩=some (.int .i64 kh)) (fun ch w'=>P (.panicked ch) w') 12 (fun c a w hd h=>⟨hd,h⟩) (by kernel_rfl) ⟨df,dg,dh⟩ ?_;refine Za3 0 rfl rfl (by kernel_rfl) ?_;apply Exists.intro;refine⟨fun w' hw=>?_,?_⟩
 ·
  obtain⟨q1,q2,q3⟩:=hw;go_simp;rfl
 simp only[Zag];refine Za3 1 rfl rfl (by kernel_rfl) ?_;apply Exists.intro;refine⟨fun w' hw=>?_,?_⟩
 ·
  obtain⟨q1,q2,q3⟩:=hw;go_simp;rfl
 simp only[Zag];refine Za3 2 rfl rfl (by kernel_rfl) ?_;apply Exists.intro;refine⟨fun w' hw=>?_,?_⟩
 ·
  obtain⟨q1,q2,q3⟩:=hw;go_simp;rfl
 simp only[Zag];refine Za3 4 rfl rfl (by kernel_rfl) ?_;apply Exists.intro;refine⟨fun w' hw=>?_,?_⟩
 ·
  obtain⟨q1,q2,q3⟩:=hw;go_simp;rfl
 simp only[Zag];refine Za3 5 rfl rfl (by kernel_rfl) ?_;apply Exists.intro;refine⟨fun w' hw=>?_,?_⟩
 ·
  obtain⟨q1,q2,q3⟩:=hw;go_simp;rfl
 simp only[Zag];refine Za3 7 rfl rfl (by kernel_rfl) ?_;apply Exists.intro;refine⟨fun w' hw=>?_,?_⟩
 ·
  obtain⟨q1,q2,q3⟩:=hw;go_simp;rfl
 simp only[Zag];refine Za3 8 rfl rfl (by kernel_rfl) ?_;apply Exists.intro;refine⟨fun w' hw=>?_,?_⟩
 ·
  obtain⟨q1,q2,q3⟩:=hw;go_simp;rfl
 simp only[Zag];refine Zbp [3] (by kernel_rfl) (fun i hi hS o ho=>?_);simp only[Zhu] at hi;subst hi;simp only[Zg7] at ho;subst ho;refine⟨rfl,?_⟩;refine Zb7 (v:=.int .i64 (f:Nat)) (R:=fun w'=>W.drew=w') (by go_simp) HEF.out ?_;rintro w' rfl;refine⟨⟨df,dg,dh⟩,?_⟩;simp only[Zag];refine Zbp [6] (by kernel_rfl) (fun i hi hS o ho=>?_);simp only[Zhu] at hi;subst hi;simp only[Zg7] at ho;subst ho;refine⟨rfl,?_⟩;refine Zb7 (v:=.int .i64 (g:Nat)) (R:=fun w'=>W.drew=w') (by go_simp) HEG.out ?_;rintro w' rfl;refine⟨⟨df,dg,dh⟩,?_⟩;simp only[Zag];refine Zbp [9] (by kernel_rfl) (fun i hi hS o ho=>?_);simp only[Zhu] at hi;subst hi;simp only[Zg7] at ho;subst ho;refine⟨rfl,?_⟩;refine Zb7 (v:=.int .i64 (h:Nat)) (R:=fun w'=>W.drew=w') (by go_simp) HEH.out ?_;rintro w' rfl;refine⟨⟨df,dg,dh⟩,?_⟩;simp only[Zag];refine Zbp [10] (by kernel_rfl) (fun i hi hS o ho=>?_);simp only[Zhu] at hi;subst hi;simp only[Zg7] at ho;subst ho;refine⟨rfl,?_⟩;refine Zin (R:=fun v w'=>(w'.cell? ⟨bf,0,none⟩=some (.int .i64 kf)/\w'.cell? ⟨bg,0,none⟩=some (.int .i64 kg)/\w'.cell? ⟨bh,0,none⟩=some (.int .i64 kh))/\P (.returned v) w') (R2:=fun ch w'=>P (.panicked ch) w') (by go_simp) (HITE.out.mono HFIN.out) ?_ ?_
 ·
  rintro v w' ⟨hS,hst⟩;refine⟨hS,?_⟩;have HST:=Hd hst;clear hst;simp only[Zag];refine Za3 11 rfl rfl (by kernel_rfl) ?_;apply Exists.intro;refine⟨fun w' hw=>?_,?_⟩
  ·
   go_simp;rfl
  simp only[Zag];refine Zkn (by kernel_rfl) ?_;clear hS df dg dh;go_wp2_with fail;exact HST.out
 ·
  intro ch w' hst;exact⟨rfl,hst⟩
abbrev C1 (b:Nat):Nat->Prop:=fun k=>k=b
structure B1 (b:Nat) (v:Int) (W:World):Prop where
 c:W.cell? ⟨b,0,none⟩=some (.int .i64 v)
theorem B1.keep {b:Nat} {v:Int} (W W':World) (h:B1 b v W) (hk:∀ c,C1 b c->W'.heap[c]?=W.heap[c]?):B1 b v W':=⟨(World.cell?_of_block (w:=W) (a:=⟨b,0,none⟩) (hk _ rfl)).trans h.c⟩
theorem Yam {K:Law} (hK:Zc8 K) {n:Nat} {Od:List Nat->Prop} {room:Nat} {w0:World} {mb:Nat} {fs:List (Int×BF)} {nx:Int} (ws0:List Ev) (lim:Option Nat) (hlim:Zok ws0 lim 1 room) (hhap:∀ ev∈ws0,HapG K n Od room w0 mb fs nx ev) (v vb:Nat) (hv:v<n) :
 OpG K n Od room w0 mb fs nx (C1 vb) (B1 vb v) (StL ws0 lim) 70 #[.pointer (some ⟨vb,0,none⟩)] (QF ws0 lim 1 (varF v)) (EL (SatX K n Od room w0 mb fs nx) 1 ws0 lim):=by
 intro o W m V xb hsat hB hC hst hx hnx;have hk:=hsat.ok;have hlt:=hsat.lt;have hks:=hk.store;have o0:okE (Zaa m.d) 0:=.inl rfl;have o1:okE (Zaa m.d) 1:=.inl rfl;have hl0:lvE m.d.vars.length (levN m.d) (Zaa m.d) 0=m.d.vars.length:=Zkr hks rfl;have hl1:lvE m.d.vars.length (levN m.d) (Zaa m.d) 1=m.d.vars.length:=Zkr hks rfl;have hvl:v<m.d.vars.length:=by rw[hsat.vars];exact hv
 have hlv:=hks.dag.lt v hvl;have HMK:=Hd (Zkc hK hsat.is hlt hx hks v 1 0 o1 o0);have cvb:=hB.c;have ob:=(hC vb rfl).2;obtain⟨P,hP⟩:∃ P:Ending->World->Prop,P=fun e w'=>∃ (o':Own) (m':ManD) (V':Nat->BF),Zhj (C1 vb) K o W mb m V o' w' m' V'/\B1 vb v w' /\
  ((∃ r:Nat,e=.returned (.int .i64 r)/\okE (Zaa m'.d) r/\QF ws0 lim 1 (varF v) w' m' V' r) \/
   (∃ er:Int,e=Zb8 er false ev0/\er≠0/\m'.waits=m.waits/\StL ws0 lim m'/\EL (SatX K n Od room w0 mb fs nx) 1 ws0 lim er m m') \/
   (∃ ev,e=Zb8 0 true ev/\m.waits=ev::m'.waits/\StE K n Od room w0 mb fs nx (StL ws0 lim) m'/\HapG K n Od room w0 mb fs nx ev)):=⟨_,rfl⟩
 have HFIN:Hid (∀ e w',Zhi K o W mb m V v 1 0 e w'->(∃ r:Nat,e=.returned (.int .i64 r)/\P (.returned (.int .i64 r)) w')\/(∃ er evt ev,e=Zb8 er evt ev/\P (Zb8 er evt ev) w')):=by
  refine Hd ?_;subst hP;rintro e w' ⟨o',m',V',st,hcase⟩;have hb1:B1 vb v w':=⟨st.chg.cell cvb ob⟩;have stx:Zhj (C1 vb) K o W mb m V o' w' m' V':=st.toX _;rcases hcase with ⟨ev,h1,_,_,_,_,rfl⟩|⟨h1,_,_,(⟨er,her,hd,_,rfl⟩|⟨_,_,r,rfl,h2,h3,_,h5⟩)⟩
  ·
   refine .inr ⟨0,true,ev,rfl,o',m',V',stx,hb1,.inr (.inr ⟨ev,rfl,h1,?_,?_⟩)⟩
   all_goals
    have hst':m.waits <:+ ws0:=hst.1;rw[h1] at hst'
    first|exact fun _ _ _ _ _ e _ _=>⟨by unfold Zj1;rw[e];exact(List.suffix_cons ev m'.waits).trans hst',Zw3 hlim hst'⟩|exact hhap ev (hst'.subset (List.mem_cons_self ..))
  ·
   refine .inr ⟨er,false,ev0,rfl,o',m',V',stx,hb1,.inr (.inl ?_)⟩;rcases her with ⟨_,h⟩|⟨_,_,_,h⟩|⟨rfl,h⟩
   ·
    exact(h ⟨by omega,by omega⟩).elim
   ·
    simp only[Int.toNat_natCast] at h;omega
   ·
    have hl0:lim=none:=Zni (m':=m') hlim hst.2 (by rw[hd];omega) (by rw[st.ext.room];exact hsat.room);exact⟨7,rfl,by omega,h1,⟨by unfold Zj1;rw[h1];exact hst.1,by subst hl0;exact fun M e=>by cases e⟩,hl0,rfl,⟨_,_,_,hsat⟩,by rw[hd];exact h,by rw[hd];omega,by rw[h1];exact hst.1⟩
  ·
   refine .inl ⟨r,rfl,o',m',V',stx,hb1,.inl ⟨r,rfl,h2,?_,by rw[h1];exact hst.1,fun M e=>by have:=hst.2 M e;omega⟩⟩;rw[h3];funext ρ;have a0:=Zif hks.dag.one ρ;have a1:=Zl2 hks.dag.one ρ;simp only[iteF,varF,Int.toNat_natCast,a0,a1];cases ρ v<;>rfl
 rw[<- hP];clear hks o0 o1 hl0 hl1 hlv hvl hk hx hC hK hv hlt hB hnx hst hP ob hsat hlim
 go_enter Tryz.func70,Tryz.ntmps70
 go_wp2_with fail;refine HMK.out.mono ?_;intro e w' hp;rcases HFIN.out e w' hp with ⟨r,rfl,hst⟩|⟨er,evt,ev,rfl,hst⟩
 ·
  have HST:=Hd hst;clear hp hst;go_wp2_with fail;exact HST.out
 ·
  have HST:=Hd hst;clear hp hst;unfold Zb8;go_wp2_with fail;exact⟨rfl,HST.out⟩
def Zfv (K:Law) (n:Nat) (Od:List Nat->Prop) (room:Nat) (w0:World) (mb:Nat) (fs:List (Int×BF)) (nx:Int) (ws0:List Ev) (lim:Option Nat) (k:Nat) (F:BF) (o:Own) (w:World) (x:Ending) (w':World):Prop :=
 ∃ o' m' V',ChgX NoB o o' w w'/\m'.waits <:+ ws0/\((x=.returned (.tuple #[.int .i64 nx,.int .i64 0])/\Zol lim k m'/\SatE K n Od room w0 mb (fs++[(nx,F)]) (nx+1) w' o' m' V') \/
  (x=.returned (.tuple #[.int .i64 0,.int .i64 7])/\lim=none/\SatE K n Od room w0 mb fs nx w' o' m' V'/\∃ m0,SatX K n Od room w0 mb fs nx m0/\m0.d.dead=0/\room+1<=m0.d.pool.many+k))
theorem StL.coll {ws0:List Ev} {lim:Option Nat} (m:ManD) (d:Zac) (h:StL ws0 lim m) (r:Za2 m.d d):StL ws0 lim { m with d:=d }:=⟨h.1,fun M e=>by have:=h.2 M e;have:=r.many;show d.pool.many<=M+0;omega⟩
theorem Zkv {K:Law} {n:Nat} {Od:List Nat->Prop} {room:Nat} {w0:World} {mb:Nat} {fs:List (Int×BF)} {nx:Int} {ws0:List Ev} {lim:Option Nat} {k:Nat} {F:BF} {o:Own} {w w1 w':World} {C:Nat->Prop} {B:World->Prop} {x:Ending} (hb:Below w.heap.size w w1) (hC:∀ c,C c->w.heap.size<=c)
 (h:Zva K n Od room w0 mb fs nx C B (QF ws0 lim k F) (EL (SatX K n Od room w0 mb fs nx) k ws0 lim) o w1 x w'):Zfv K n Od room w0 mb fs nx ws0 lim k F o w x w':=by
 obtain⟨o',m',V',_,hc,hcase⟩:=h;have hc':ChgX NoB o o' w w':=(ChgX.of_below hb o NoB).trans hc (fun k hk e=>by have:=hC k e;omega);rcases hcase with ⟨r,m1,rfl,hs,⟨q1,q2,q4⟩,_,_,_,_,q5,q3,_⟩|⟨er,m0,_,rfl,hs,⟨hl0,rfl,hm0,h1,h2,h3⟩,h7⟩
 ·
  exact⟨o',m',V',hc',by rw[q3];exact q2,.inl ⟨rfl,fun M e=>by rw[q5];exact q4 M e,by rw[<- q1];exact hs⟩⟩
 ·
  refine⟨o',m',V',hc',h3,.inr ⟨rfl,hl0,hs,m0,hm0,h7 rfl,?_⟩⟩;have:=hs.room;omega
theorem Zul {K:Law} (hK:Zc8 K) {n:Nat} {Od:List Nat->Prop} {room:Nat} {w0:World} {mb:Nat} {fs:List (Int×BF)} {nx:Int} {w:World} {o:Own} {m:ManD} {V:Nat->BF} (h:SatE K n Od room w0 mb fs nx w o m V) (ws0:List Ev) (hws:m.waits <:+ ws0) (lim:Option Nat) (hlim:Zok ws0 lim (2^n-1) room) (hl0:Zol lim 0 m) (hhap:∀ ev∈ws0,HapG K n Od room w0 mb fs nx ev) (hn:nx<1099511627776)
 {kf kg kh:Int} {F G H:BF} (hf:(kf,F)∈fs) (hg:(kg,G)∈fs) (hh:(kh,H)∈fs) :
 Calls Tryz.prog 18 #[.pointer (some ⟨mb,0,none⟩),.int .i64 kf,.int .i64 kg,.int .i64 kh] w (Zfv K n Od room w0 mb fs nx ws0 lim (2^n-1) (Zdc F G H) o w):=by
 have hmf:∀ (fn:Fn) (first cap:Array Value) (w:World),(Instr.makeFunc fn first cap).run Tryz.prog w=.ok (.func fn first cap) w:=fun _ _ _ _=>rfl
 obtain⟨hb,cf,cg,ch⟩:=Zvt kf kg kh w;have hw0:=h.chg.size;have hz:(box3 kf kg kh w).heap.size=w.heap.size+3:=by simp[box3]
 have HDO:Hid (Calls Tryz.prog 53 #[.pointer (some ⟨mb,0,none⟩),.func (.func 54) #[] #[.pointer (some ⟨w.heap.size,0,none⟩),.pointer (some ⟨w.heap.size+1,0,none⟩),.pointer (some ⟨w.heap.size+1+1,0,none⟩)]] (box3 kf kg kh w) (Zfv K n Od room w0 mb fs nx ws0 lim (2^n-1) (Zdc F G H) o w)):=by
  refine Hd ?_;refine(Zwc hK B3.keep (fun _ _ _ _ _ h _=>h) StL.coll ?_ Zke (Zzg hK ws0 lim hlim hhap w.heap.size (w.heap.size+1) (w.heap.size+1+1) hf hg hh) (h.below hb) ⟨cf,cg,ch⟩ ?_ ⟨hws,hl0⟩ hn).mono fun x w' hp=>Zkv hb ?_ hp
  ·
   rintro c (rfl|rfl|rfl)<;>omega
  ·
   rintro c (rfl|rfl|rfl)<;>exact⟨by omega,h.lt.none (by omega)⟩
  ·
   rintro c (rfl|rfl|rfl)<;>omega
 have HW:Hid (_=box3 kf kg kh w):=Hd (show ((w.alloc (.cells #[.int .i64 kf] 3)).alloc (.cells #[.int .i64 kg] 3)).alloc (.cells #[.int .i64 kh] 3)=box3 kf kg kh w from rfl);clear h hK hws hhap hn hf hg hh hb cf cg ch hw0 hz hlim hl0;obtain⟨P,hP⟩:∃ P,P=Zfv K n Od room w0 mb fs nx ws0 lim (2^n-1) (Zdc F G H) o w:=⟨_,rfl⟩;rw[<- hP] at HDO ⊢;have HT:Hid (∀ x w',P x w'->∃ a b,x=.returned (.tuple #[.int .i64 a,.int .i64 b])):=by
  refine Hd ?_;subst hP;rintro x w' ⟨_,_,_,_,_,(⟨rfl,_⟩|⟨rfl,_⟩)⟩
  ·
   exact⟨_,_,rfl⟩
  ·
   exact⟨_,_,rfl⟩
 clear hP
 go_enter Tryz.func18,Tryz.ntmps18
 go_wp2_with fail;rw[HW.out];refine HDO.out.mono ?_;intro x w' hd;obtain⟨a,b,rfl⟩:=HT.out x w' hd;have HD:=Hd hd;clear hd;go_wp2_with fail;exact HD.out
theorem Zmc {K:Law} (hK:Zc8 K) {n:Nat} {Od:List Nat->Prop} {room:Nat} {w0:World} {mb:Nat} {fs:List (Int×BF)} {nx:Int} {w:World} {o:Own} {m:ManD} {V:Nat->BF} (h:SatE K n Od room w0 mb fs nx w o m V) (ws0:List Ev) (hws:m.waits <:+ ws0) (lim:Option Nat) (hlim:Zok ws0 lim 1 room) (hl0:Zol lim 0 m) (hhap:∀ ev∈ws0,HapG K n Od room w0 mb fs nx ev) (hn:nx<1099511627776)
 (v:Nat) (hv:v<n) :
 Calls Tryz.prog 30 #[.pointer (some ⟨mb,0,none⟩),.int .i64 v] w (Zfv K n Od room w0 mb fs nx ws0 lim 1 (varF v) o w):=by
 have hmf:∀ (fn:Fn) (first cap:Array Value) (w:World),(Instr.makeFunc fn first cap).run Tryz.prog w=.ok (.func fn first cap) w:=fun _ _ _ _=>rfl
 obtain⟨w1,hw1⟩:∃ w1,w1=w.alloc (.cells #[.int .i64 (v:Nat)] 3):=⟨_,rfl⟩;have hb1:Below w.heap.size w w1:=by rw[hw1];exact Zaf w _
 have hvb:w1.heap[w.heap.size]?=some (.cells #[.int .i64 (v:Nat)] 3 (0,0)):=by rw[hw1];exact heap_alloc_new w _
 have cvb:w1.cell? ⟨w.heap.size,0,none⟩=some (.int .i64 (v:Nat)):=cell1 hvb;have hz1:w1.heap.size=w.heap.size+1:=by rw[hw1];simp
 have hw0:=h.chg.size;obtain⟨s,hms⟩:=h.is;have hm1:=hms.below h.lt hb1;obtain⟨c0,c1,c2,c3,c4,c5,f0⟩:=cells6 hm1.blk;obtain⟨ss,hss⟩:=hm1.store;have hlz:Zfr m.d v=(levN m.d v:Nat):=Zpq (by rw[hss.len,h.vars];exact hv);have HLV:Hid (∀ n,Calls Tryz.prog 69 #[.pointer (some ⟨s.sb,0,none⟩),.int .i64 (v:Nat)] (w1.drewN n) fun x w'=>x=.returned (.int .i64 (levN m.d v:Nat))/\w1.drewN n=w'):=by
  refine Hd fun n=>?_
  have:=Zhe (hss.below (h.lt.mono hb1.size) (Zah w1 n)) v (by rw[hss.len];have:=h.ok.store.small;omega);rw[hlz] at this;exact this
 obtain⟨P,hP⟩:∃ P,P=Zfv K n Od room w0 mb fs nx ws0 lim 1 (varF v) o w:=⟨_,rfl⟩;have HDO:Hid (∀ q,Calls Tryz.prog 53 #[.pointer (some ⟨mb,0,none⟩),.func (.func 70) #[] #[.pointer (some ⟨w.heap.size,0,none⟩)]] (w1.drewN q) P):=by
  refine Hd fun q=>?_
  rw[hP];have hb2:Below w.heap.size w (w1.drewN q):=hb1.trans ((Zah w1 q).mono hb1.size);refine(Zwc hK B1.keep (fun _ _ _ _ _ h _=>h) StL.coll ?_ Zrc (Yam hK ws0 lim hlim hhap v w.heap.size hv) (h.below hb2) ⟨cvb⟩ ?_ ⟨hws,hl0⟩ hn).mono fun x w' hp=>Zkv hb2 ?_ hp
  ·
   rintro c rfl;omega
  ·
   rintro c rfl;exact⟨by have:=hb2.size;show w.heap.size<w1.heap.size;omega,h.lt.none (by omega)⟩
  ·
   rintro c rfl;omega
 have HT:Hid (∀ x w',P x w'->∃ a b,x=.returned (.tuple #[.int .i64 a,.int .i64 b])):=by
  refine Hd ?_;rw[hP];rintro x w' ⟨_,_,_,_,_,(⟨rfl,_⟩|⟨rfl,_⟩)⟩
  ·
   exact⟨_,_,rfl⟩
  ·
   exact⟨_,_,rfl⟩
 rw[<- hP];have HW:Hid (w.alloc (.cells #[.int .i64 (v:Nat)] 3)=w1):=Hd hw1.symm;clear hm1 hss hlz hms hb1 hvb hw1 hK hn hv hws hhap h hw0 hz1 hP hlim hl0
 go_enter Tryz.func30,Tryz.ntmps30
 go_upto_region 3 with fail;rw[HW.out]
 go_quiet (with_reducible exact Za8 (HLV.out _))
 go_wp2_with fail;refine(HDO.out _).mono ?_;intro x w' hd;obtain⟨a,b,rfl⟩:=HT.out x w' hd;have HD:=Hd hd;clear hd;go_wp2_with fail;exact HD.out
end Go.Proofs.YtlgogjbkadckkaaGreat

namespace Go.Proofs.YtlgogjbkadckkaaGreat
open Go.RowKit Go.Shelf
section
variable {F:Fence} {n:Nat} {P:Program} {α:Type}
def Yao (F:Fence) (n d:Nat) (P:Program) (g:Nat) (lb:Array Value) (encs:α->Array Value) (n₀:Nat) (Bx:Nat->Prop) (Good:List α->Prop) (w:World):Prop :=
 ∀ (l:Nat) (J:List α->(Nat->Prop)->World->Prop) (M:Nat->Prop) (W:World),Zr5 n₀ J->Minds n₀ J->Wr (fun k=>n₀<=k/\¬ Bx k) w W->(∀ k,Bx k->¬ M k) ->
  (∀ pre x M W1,J pre M W1->(∃ suf,Good (pre++x::suf))->YieldAt F (n-1-d) P l (encs x) W1 fun e W' =>
   e=.returned (.bool true)/\∃ M',J (pre++[x]) M' W'/\Wr M W1 W'/\∀ k,M' k->M k\/W1.heap.size<=k) ->
  J [] M W ->
  CallsIn F n P g (#[.func (.yield l) #[] #[]]++lb) W fun e W'=>(∃ v,e=.returned v)/\∃ xs M',Good xs/\J xs M' W'/\Wr (fun k=>n₀<=k) W W'/\∀ k,M' k->M k\/W.heap.size<=k
theorem Zyu {g:Operand} {ps:Array Tmp} {assign body:Code} {Q:Exit->Act->World->Prop} {a:Act} {w:World} (hro:F.round=none) (h1:1<=n) {gf:Nat} {lb:Array Value} (hg:a.eval g=.func (.func gf) #[] lb)
 (hFg:F.fn gf) (eg:∀ args w,(callFunc gf args).run P w=.ok (.enter gf args) w) {encs:α->Array Value} {n₀:Nat} {Bx:Nat->Prop} {Good:List α->Prop} {d:Nat} (hseq:Yao F (n-1) d P gf lb encs n₀ Bx Good w) (hn0:n₀<=w.heap.size)
 (hBx:∀ k,Bx k->k<w.heap.size) (hps:∀ x,(encs x).size=ps.size) (I:List α->(Nat->Prop)->World->Prop) (hOw:Zr5 n₀ I) (hMi:Minds n₀ I) (M0:Nat->Prop) (hM0:∀ k,Bx k->¬ M0 k) (h0:I [] M0 w)
 (Ax:α->Act->World->World->Prop) (hAx:∀ x a' W W1 W2 l,l<W.heap.size->Ax x a' W W1->Wr (· = l) W1 W2->Ax x a' W W2)
 (hassign:∀ (l:Nat) (pre:List α) (x:α) (M:Nat->Prop) (W:World) (K:Act->World->Prop),I pre M W->(∀ a' W',Wr (fun _=>False) W W'->Ax x a' W W'->K a' W') ->
  assign.wpIn (F.inRound l) (n-1-1-d) P (Exit.then K (fun _ _ _=>False)) { tmps:=(ps.zip (encs x)).foldl (fun t (p,v)=>t.setIfInBounds p v) a.tmps,defers:=[] } W)
 (hbody:∀ (l:Nat) (pre:List α) (x:α) (a':Act) (M:Nat->Prop) (W0 W:World),I pre M W->Ax x a' W0 W->W0.heap.size<=W.heap.size->w.heap.size<=W0.heap.size->(∃ suf,Good (pre++x::suf))->body.wpIn (F.inRound l) (n-1-1-d) P
  (fun e _ W'=>match e with|.normal=>∃ M',I (pre++[x]) M' W'/\Wr (fun k=>M k\/W0.heap.size<=k) W W'/\(∀ k,M' k->M k\/W0.heap.size<=k)|_=>False) a' W)
 (hdone:∀ (xs:List α) (D:Nat) (M:Nat->Prop) (W:World),Good xs->w.heap.size<=D->¬ M D->I xs M W->(∀ k,M k->M0 k\/w.heap.size<=k)->Wr (fun k=>n₀<=k) w W->W.heap[D]?=some (.deferred (some []))->Q .normal { a with defers:={ target:=.collected D,args:=#[] }::a.defers } W) :
 (Code.rangeFunc g ps assign body).wpIn F n P Q a w:=by
 refine wpIn_rangeFunc ?_;intro fn hfn;rw[hro]
 let rec0:LoopState->Loop:=fun st=>{ state:=st,pending:=none,fn,tmps:=a.tmps,params:=ps,assign,body,defers:=w.heap.size }
 obtain⟨W1,hW1⟩:∃ W1,W1=(w.alloc (.deferred (some []))).alloc (.loop (rec0 .ready)):=⟨_,rfl⟩;have hL1:W1.heap[w.heap.size+1]?=some (.loop (rec0 .ready)):=by
  rw[hW1];have:=World.alloc_heap_new (w.alloc (.deferred (some []))) (.loop (rec0 .ready))
  rwa [World.size_alloc] at this
 have hD1:W1.heap[w.heap.size]?=some (.deferred (some [])):=by
  rw[hW1];exact(Below.heap_alloc _ _ _ (by simp)).trans (World.alloc_heap_new w _)
 have hw1:∀ N:Nat->Prop,Wr N w W1:=fun N=>by rw[hW1];exact((Wr.refl N w).alloc _).alloc _
 have hM0lt:=hOw [] M0 w h0;have hI1:I [] M0 W1:=hMi _ _ _ _ h0 (hw1 _)
 refine⟨w.heap.size+1,[{ target:=.collected w.heap.size,args:=#[] }],W1,{ target:=.fn (.func gf) lb,args:=#[.func (.yield (w.heap.size+1)) #[] #[]] },W1,gf,
  #[.func (.yield (w.heap.size+1)) #[] #[]]++lb,W1,?_,?_,?_,?_,fun _=>h1,?_⟩
 ·
  rw[hW1];exact run_enterLoop_outer _ _ _ _ _
 ·
  simp only[resolve,hg];simp[go_sem]
 ·
  intro f' hf';simp[Target.leads] at hf';subst hf';exact hFg
 ·
  simp[invoke,go_sem,eg]
 refine(hseq (w.heap.size+1)
  (fun pre N W=>∃ M,I pre M W/\(∀ k,N k↔(M k\/k=w.heap.size+1\/k=w.heap.size))/\¬ M (w.heap.size+1)/\¬ M w.heap.size/\(∀ k,M k->M0 k\/w.heap.size<=k) /\
   W.heap[w.heap.size+1]?=some (.loop (rec0 .ready))/\W.heap[w.heap.size]?=some (.deferred (some [])))
  (fun k=>M0 k\/k=w.heap.size+1\/k=w.heap.size) W1 ?_ ?_ (hw1 _) ?_ ?_ ?_).mono ?_
 ·
  rintro pre N W ⟨M,hi,hN,_,_,_,hl,hd⟩ k hk;rcases(hN k).1 hk with hk|hk|hk
  ·
   exact hOw _ _ _ hi k hk
  ·
   subst hk;exact⟨by omega,(Array.getElem?_eq_some_iff.1 hl).1⟩
  ·
   subst hk;exact⟨hn0,(Array.getElem?_eq_some_iff.1 hd).1⟩
 ·
  rintro pre N W W' ⟨M,hi,hN,h2,h3,h4,hl,hd⟩ hw;refine⟨M,hMi _ _ _ _ hi ?_,hN,h2,h3,h4,?_,?_⟩
  ·
   exact⟨hw.os,hw.tape,hw.output,hw.size,fun k hk hn=>hw.keep k hk (fun⟨a,b⟩=>hn ⟨a,fun e=>b ((hN k).2 (.inl e))⟩)⟩
  ·
   exact(hw.keep _ (Array.getElem?_eq_some_iff.1 hl).1 (fun⟨_,b⟩=>b ((hN _).2 (.inr (.inl rfl))))).trans hl
  ·
   exact(hw.keep _ (Array.getElem?_eq_some_iff.1 hd).1 (fun⟨_,b⟩=>b ((hN _).2 (.inr (.inr rfl))))).trans hd
 ·
  intro k hk hm;have:=hBx k hk;rcases hm with hm|hm|hm
  ·
   exact hM0 k hk hm
  ·
   omega
  ·
   omega
 ·
  rintro pre x N W ⟨M,hi,hN,h2,h3,h4,hl,hd⟩ hsuf;have hlt:w.heap.size+1<W.heap.size:=(Array.getElem?_eq_some_iff.1 hl).1;have hy:=run_yield (P:=P) (args:=encs x) hl (hps x);refine⟨fn,_,assign,body,hy,roundIn_of_wpIn hfn (hassign _ pre x M W _ hi ?_)⟩;intro a' Wa hwa hax;have hla:=(hwa.keep _ hlt (fun h=>h)).trans hl;have hda:=(hwa.keep _ (by omega) (fun h=>h)).trans hd;have hlta:w.heap.size+1<Wa.heap.size:=by have:=hwa.size;omega
  refine⟨_,run_beginRound hla rfl,?_⟩;have hia:I pre M Wa:=hMi _ _ _ _ hi (hwa.mono (fun _ h=>h.elim));have hwb:Wr (· = w.heap.size+1) Wa (Wa.putObj (w.heap.size+1) (.loop { rec0 .ready with state:=.busy })):=(Wr.refl (· = w.heap.size+1) Wa).putObj (l:=w.heap.size+1) (.inl rfl) _;have hib:I pre M (Wa.putObj (w.heap.size+1) (.loop { rec0 .ready with state:=.busy })):=hMi _ _ _ _ hia (hwb.mono (fun k e=>by have e':k=w.heap.size+1:=e;subst e';exact⟨by omega,h2⟩));have hlb:(Wa.putObj (w.heap.size+1) (.loop { rec0 .ready with state:=.busy })).heap[w.heap.size+1]?=some (.loop { rec0 .ready with state:=.busy }):=World.putObj_heap_same hlta;have hdb:(Wa.putObj (w.heap.size+1) (.loop { rec0 .ready with state:=.busy })).heap[w.heap.size]?=some (.deferred (some [])):=(World.putObj_heap_other (by omega)).trans hda;refine wpIn_mono (hbody _ pre x a' M W _ hib (hAx _ _ _ _ _ _ hlt hax hwb) (by simp;exact hwa.size) (by omega) hsuf) ?_;intro e a3 W3 hp;cases e with
  | normal =>
    obtain⟨M',hi3,hw3,hM'⟩:=hp;have hl3:=(hw3.keep _ (by simp;exact hlta) (fun e=>by rcases e with e|e;exact h2 e;omega)).trans hlb;have hd3:=(hw3.keep _ (by simp;omega) (fun e=>by rcases e with e|e;exact h3 e;omega)).trans hdb;have hlt3:=(Array.getElem?_eq_some_iff.1 hl3).1;have hm2:¬ M' (w.heap.size+1):=fun e=>by rcases hM' _ e with h|h;exact h2 h;omega
    have hm3:¬ M' w.heap.size:=fun e=>by rcases hM' _ e with h|h;exact h3 h;omega
    refine⟨_,_,run_endRound (P:=P) none hl3,rfl,fun k=>M' k\/k=w.heap.size+1\/k=w.heap.size,⟨M',?_,fun k=>Iff.rfl,hm2,hm3,?_,World.putObj_heap_same hlt3,(World.putObj_heap_other (by omega)).trans hd3⟩,?_,?_⟩
    ·
     exact hMi _ _ _ _ hi3 ((Wr.refl _ _).putObj (.inl ⟨by omega,hm2⟩) _)
    ·
     intro k hk;rcases hM' k hk with h|h
     ·
      exact h4 k h
     ·
      right;omega
    ·
     refine((((hwa.mono (N:=N) (fun _ h=>h.elim)).putObj (l:=w.heap.size+1) (.inl ((hN _).2 (.inr (.inl rfl)))) _).trans (N:=N) hw3 (fun k _ h=>h) (fun k hk h=>?_)).putObj (l:=w.heap.size+1) (.inl ((hN _).2 (.inr (.inl rfl)))) _);rcases h with h|h
     ·
      exact(hN k).2 (.inl h)
     ·
      omega
    ·
     rintro k (hk|hk)
     ·
      rcases hM' k hk with h|h
      ·
       exact .inl ((hN k).2 (.inl h))
      ·
       exact .inr h
     ·
      exact .inl ((hN k).2 (.inr hk))
  | ret=>exact hp.elim
  | exit id=>exact hp.elim
  | goto t=>exact hp.elim
  | panic ch=>exact hp.elim
  | outgrown=>exact hp.elim
 ·
  exact⟨M0,hI1,fun k=>Iff.rfl,fun e=>by have:=(hM0lt _ e).2;omega,fun e=>by have:=(hM0lt _ e).2;omega,fun k h=>.inl h,hL1,hD1⟩
 ·
  rintro e W2 ⟨⟨v,rfl⟩,xs,N,hgood,⟨M,hi,hN,h2,h3,h4,hl,hd⟩,hw2,_⟩;refine⟨none,_,run_endLoop (P:=P) hl (by simp[rec0]),hdone xs _ M _ hgood (Nat.le_refl _) h3 ?_ h4 ?_ ((World.putObj_heap_other (by omega)).trans hd)⟩
  ·
   exact hMi _ _ _ _ hi ((Wr.refl _ _).putObj (.inl ⟨by omega,h2⟩) _)
  ·
   exact((hw1 (fun k=>n₀<=k)).trans hw2 (fun _ _ h=>h) (fun _ _ h=>h)).putObj (.inl (by omega)) _
end
end Go.Proofs.YtlgogjbkadckkaaGreat

namespace Go.Proofs.YtlgogjbkadckkaaGreat
open Go.RowKit Go.Shelf
open Go.ChangeMaps (setBlock)
def Zc9 (q:Nat×Nat):List Value:=[.int .i64 q.1,.int .i64 q.2]
theorem Zi7 {α β:Type} {f:α->β} {l:List α} (h:(l.map f).Nodup):l.Nodup:=(List.pairwise_map.1 h).imp fun hne e=>hne (congrArg f e)
def Ycu:Value->Nat
 | .int _ n=>n.toNat
 | _=>0
def unE:Value->Nat×Nat
 | .agg cs=>(Ycu (cs.getD 0 undef),Ycu (cs.getD 1 undef))
 | _=>(0,0)
theorem Yct (q:Nat×Nat):unE (encE q)=q:=by simp[unE,encE,Ycu]
structure Zj0 (es:Array MapEntry) (clock:Nat) (seen:Array Nat) (ks:List (Nat×Nat)) (sl:List MapEntry):Prop where
 sub:∀ e∈sl,e∈es.toList
 born:sl.map (·.born)=seen.toList
 nodup:(sl.map (·.born)).Nodup
 keys:sl.map (·.key)=ks.map encE
theorem Zj0.start (es:Array MapEntry) (clock:Nat):Zj0 es clock #[] [] []:=⟨fun _ h=>(by cases h),rfl,List.nodup_nil,rfl⟩
theorem Zj0.next {es:Array MapEntry} {clock:Nat} {seen:Array Nat} {ks:List (Nat×Nat)} {sl:List MapEntry} (h:Zj0 es clock seen ks sl) {e:MapEntry} (he:e∈(leftOf es seen).toList) {q:Nat×Nat} (hq:e.key=encE q):Zj0 es clock (seen.push e.born) (ks++[q]) (sl++[e]):=by
 obtain⟨h1,h2⟩:=mem_left he;refine⟨fun x hx=>?_,by simp[h.born],?_,by simp[h.keys,hq]⟩
 ·
  rcases List.mem_append.1 hx with hx|hx
  ·
   exact h.sub x hx
  ·
   simp at hx;subst hx;exact h1
 ·
  rw[List.map_append,List.nodup_append];refine⟨h.nodup,by simp,fun a ha b hb=>?_⟩;simp at hb;subst hb;rintro rfl;rw[h.born] at ha;have:seen.contains e.born=true:=by simpa using ha
  rw[this] at h2;cases h2
theorem Zj0.all {es:Array MapEntry} {clock:Nat} {seen:Array Nat} {ks:List (Nat×Nat)} {sl:List MapEntry} (h:Zj0 es clock seen ks sl) (hn:(es.toList.map (·.born)).Nodup) (h0:(leftOf es seen).size=0):sl.Perm es.toList:=by
 have hall:=all_seen es seen h0;refine(List.perm_ext_iff_of_nodup (Zi7 h.nodup) (Zi7 hn)).2 fun e=>⟨h.sub e,fun he=>?_⟩
 have h1:=hall e he;have h2:e.born∈sl.map (·.born):=by rw[h.born];simpa using h1
 obtain⟨x,hx,e1⟩:=List.mem_map.1 h2;have:x=e:=born_inj hn (h.sub x hx) he e1;rw[<- this];exact hx
theorem Zj0.keysOf {w:World} {b:Nat} {l:List ((Nat×Nat)×Value)} {es:Array MapEntry} {clock:Nat} {seen:Array Nat} {ks:List (Nat×Nat)} {sl:List MapEntry} (h:Zj0 es clock seen ks sl) (hn:(es.toList.map (·.born)).Nodup) (h0:(leftOf es seen).size=0)
 (hl:es.toList.map (fun e=>(e.key,e.val))=l.map (fun p=>(encE p.1,p.2))):ks.Perm (l.map Prod.fst):=by
 have h1:(ks.map encE).Perm ((l.map Prod.fst).map encE):=by
  rw[<- h.keys];have h2:=(h.all hn h0).map (fun e:MapEntry=>e.key);refine h2.trans ?_;have h3:=congrArg (List.map Prod.fst) hl;simp only[List.map_map] at h3;have e1:(es.toList.map fun e:MapEntry=>e.key)=(l.map Prod.fst).map encE:=by
   rw[List.map_map];exact h3
  rw[e1]
 have h2:=h1.map unE;simpa [List.map_map,Function.comp_def,Yct] using h2
theorem Yb4:(Tryz.prog.info? 205).map (fun i=>(i.zero,i.size,i.bytes))=some (some (.agg #[.int .i64 0,.int .i64 0]),2,16):=by kernel_rfl
structure KeyS (W0:World) (mb r clock:Nat) (es:Array MapEntry) (seen:Array Nat) (ks:List (Nat×Nat)) (sl:List MapEntry) (v:Value) (oG:Own) (wr:World):Prop where
 low:Below W0.heap.size W0 wr
 it:wr.heap[r]?=some (.mapIter (some mb) clock seen clock)
 came:Zj0 es clock seen ks sl
 row:RowR oG wr .slots 205 2 v ks.length (ks.flatMap Zc9)
 lt:Zai oG wr
 ge:∀ k q,oG k=some q->q=.slots/\W0.heap.size<=k
 no:oG r=none
 cnt:ks.length+(leftOf es seen).size<=es.size
theorem KeyS.next {W0:World} {mb r clock:Nat} {es:Array MapEntry} {seen:Array Nat} {ks:List (Nat×Nat)} {sl:List MapEntry} {v v':Value} {oG o1:Own} {wr w1 w2 w3 w4:World} (h:KeyS W0 mb r clock es seen ks sl v oG wr) (hr0:W0.heap.size<=r) {e:MapEntry} (he:e∈(leftOf es seen).toList) {q:Nat×Nat} (hq:e.key=encE q)
 (hw1:w1=wr\/w1=wr.drew) (hw2:w2=setBlock w1 r (.mapIter (some mb) clock (seen.push e.born) clock)) (hb3:Below w2.heap.size w2 w3)
 (hr:RowR o1 w4 .slots 205 2 v' (ks.length+1) (ks.flatMap Zc9++Zc9 q)) (hc:Chg (· = .slots) oG o1 w3 w4) (hl:Zai o1 w4) :
 KeyS W0 mb r clock es (seen.push e.born) (ks++[q]) (sl++[e]) v' o1 w4:=by
 have hrl:r<wr.heap.size:=(Array.getElem?_eq_some_iff.1 h.it).1;have z2:w2.heap.size=wr.heap.size:=by rw[hw2];rcases hw1 with rfl|rfl<;>simp[setBlock]
 have i2:w2.heap[r]?=some (.mapIter (some mb) clock (seen.push e.born) clock):=by rw[hw2];rcases hw1 with rfl|rfl<;>simp[setBlock,hrl]
 have k2:∀ g,g≠r->w2.heap[g]?=wr.heap[g]?:=fun g hg=>by
  rw[hw2];rcases hw1 with rfl|rfl<;>simp[setBlock,Array.getElem?_setIfInBounds,Ne.symm hg]<;>rfl
 have b2:Below W0.heap.size W0 w2:=h.low.trans ⟨by rw[hw2];rcases hw1 with rfl|rfl<;>rfl,by rw[hw2];rcases hw1 with rfl|rfl<;>rfl,by rw[hw2];rcases hw1 with rfl|rfl<;>rfl,by omega,fun g hg=>k2 g (by omega)⟩;have nn:∀ g,g<W0.heap.size->oG g=none:=fun g hg=>by
  cases eo:oG g with
  | none=>rfl
  | some r=>have:=(h.ge g r eo).2;omega
 have s0:=h.low.size;have b3:=b2.trans (hb3.mono (by omega));refine⟨b3.trans ⟨hc.os,hc.tape,hc.output,hc.size,fun g hg=>hc.alien (by have:=b3.size;omega) (nn g hg)⟩,?_,h.came.next he hq,by simpa using hr,hl,fun g q hg=>?_,hc.alien' (by have:=hb3.size;omega) h.no,by have h1:=left_shrinks es seen e he;have h2:=h.cnt;simp;omega⟩
 ·
  rw[hc.alien (by have:=hb3.size;omega) h.no,hb3.block r (by omega)];exact i2
 ·
  by_cases eo:o1 g=oG g
  ·
   rw[eo] at hg;exact h.ge g q hg
  ·
   obtain⟨a1,p,a2,a3⟩:=hc.new g eo;rw[hg] at a2;cases a2
   have:=hb3.size;exact⟨a3,by omega⟩
theorem KeyS.row3 {W0:World} {mb r clock:Nat} {es:Array MapEntry} {seen:Array Nat} {ks:List (Nat×Nat)} {sl:List MapEntry} {v:Value} {oG:Own} {wr w1 w2 w3:World} (h:KeyS W0 mb r clock es seen ks sl v oG wr) {x:Obj} (hw1:w1=wr\/w1=wr.drew) (hw2:w2=setBlock w1 r x) (hb3:Below w2.heap.size w2 w3) :
 RowR oG w3 .slots 205 2 v ks.length (ks.flatMap Zc9)/\Zai oG w3:=by
 have z2:w2.heap.size=wr.heap.size:=by rw[hw2];rcases hw1 with rfl|rfl<;>simp[setBlock]
 have k2:∀ g,g≠r->w2.heap[g]?=wr.heap[g]?:=fun g hg=>by
  rw[hw2];rcases hw1 with rfl|rfl<;>simp[setBlock,Array.getElem?_setIfInBounds,Ne.symm hg]<;>rfl
 refine⟨h.row.keep (fun g hg=>?_) (fun _ h=>h),h.lt.mono (by have:=hb3.size;omega)⟩;have h1:=h.lt g _ hg;rw[hb3.block g (by omega)];exact k2 g (by rintro rfl;rw[h.no] at hg;cases hg)
end Go.Proofs.YtlgogjbkadckkaaGreat

namespace Go.Proofs
open Go.Shelf
def Tryz.sortKeys_ren:Go.Shelf.Ren:=⟨fun|6=>179|15=>108|14=>184|28=>142|29=>143|20=>186|21=>187|22=>188|23=>189|24=>190|25=>191|26=>192|27=>193|46=>194|47=>164|48=>165|49=>195|50=>196|57=>197|n=>n,fun|22=>250|24=>205|25=>259|3=>3|39=>105|0=>0|53=>101|55=>49|4=>4|46=>218|45=>217|50=>33|5=>5|9=>9|66=>239|70=>243|76=>253|77=>125|n=>n,fun|n=>n⟩
theorem Tryz.sortKeys:Go.Proofs.SlLaysF0.n6 Tryz.prog Tryz.sortKeys_ren:={
 mixed:=by kernel_rfl
 f6:=⟨Tryz.f179.name,by decide,Tryz.func179.trans (congrArg some (by kernel_rfl))⟩
 f14:=⟨Tryz.f184.name,by decide,Tryz.func184.trans (congrArg some (by kernel_rfl))⟩
 f15:=Tryz.func108.trans (congrArg some (by kernel_rfl))
 f20:=⟨Tryz.f186.name,by decide,Tryz.func186.trans (congrArg some (by kernel_rfl))⟩
 f21:=⟨Tryz.f187.name,by decide,Tryz.func187.trans (congrArg some (by kernel_rfl))⟩
 f22:=⟨Tryz.f188.name,by decide,Tryz.func188.trans (congrArg some (by kernel_rfl))⟩
 f23:=⟨Tryz.f189.name,by decide,Tryz.func189.trans (congrArg some (by kernel_rfl))⟩
 f24:=⟨Tryz.f190.name,by decide,Tryz.func190.trans (congrArg some (by kernel_rfl))⟩
 f25:=⟨Tryz.f191.name,by decide,Tryz.func191.trans (congrArg some (by kernel_rfl))⟩
 f26:=⟨Tryz.f192.name,by decide,Tryz.func192.trans (congrArg some (by kernel_rfl))⟩
 f27:=⟨Tryz.f193.name,by decide,Tryz.func193.trans (congrArg some (by kernel_rfl))⟩
 f28:=Tryz.func142.trans (congrArg some (by kernel_rfl))
 f29:=Tryz.func143.trans (congrArg some (by kernel_rfl))
 f46:=⟨Tryz.f194.name,by decide,Tryz.func194.trans (congrArg some (by kernel_rfl))⟩
 f47:=Tryz.func164.trans (congrArg some (by kernel_rfl))
 f48:=Tryz.func165.trans (congrArg some (by kernel_rfl))
 f49:=⟨Tryz.f195.name,by decide,Tryz.func195.trans (congrArg some (by kernel_rfl))⟩
 f50:=⟨Tryz.f196.name,by decide,Tryz.func196.trans (congrArg some (by kernel_rfl))⟩
 f57:=⟨Tryz.f197.name,by decide,Tryz.func197.trans (congrArg some (by kernel_rfl))⟩
 t0:=Tryz.underlying0
 a0:=Tryz.isAgg0
 z0:=Tryz.sizeOf0
 v0:=Tryz.zeroValue0
 t3:=Tryz.underlying3
 a3:=Tryz.isAgg3
 z3:=Tryz.sizeOf3
 v3:=Tryz.zeroValue3
 t4:=Tryz.underlying4
 a4:=Tryz.isAgg4
 z4:=Tryz.sizeOf4
 v4:=Tryz.zeroValue4
 t5:=Tryz.underlying5
 a5:=Tryz.isAgg5
 z5:=Tryz.sizeOf5
 v5:=Tryz.zeroValue5
 t9:=Tryz.underlying9
 a9:=Tryz.isAgg9
 z9:=Tryz.sizeOf9
 v9:=Tryz.zeroValue9
 t22:=Tryz.underlying250
 a22:=Tryz.isAgg250
 z22:=Tryz.sizeOf250
 v22:=Tryz.zeroValue250
 t25:=Tryz.underlying259
 a25:=Tryz.isAgg259
 z25:=Tryz.sizeOf259
 v25:=Tryz.zeroValue259
 t39:=Tryz.underlying105
 a39:=Tryz.isAgg105
 z39:=Tryz.sizeOf105
 v39:=Tryz.zeroValue105
 t45:=Tryz.underlying217
 a45:=Tryz.isAgg217
 z45:=Tryz.sizeOf217
 v45:=Tryz.zeroValue217
 t46:=Tryz.underlying218
 a46:=Tryz.isAgg218
 z46:=Tryz.sizeOf218
 v46:=Tryz.zeroValue218
 t50:=Tryz.underlying33
 a50:=Tryz.isAgg33
 z50:=Tryz.sizeOf33
 v50:=Tryz.zeroValue33
 t53:=Tryz.underlying101
 a53:=Tryz.isAgg101
 z53:=Tryz.sizeOf101
 v53:=Tryz.zeroValue101
 t55:=Tryz.underlying49
 a55:=Tryz.isAgg49
 z55:=Tryz.sizeOf49
 v55:=Tryz.zeroValue49
 t66:=Tryz.underlying239
 a66:=Tryz.isAgg239
 z66:=Tryz.sizeOf239
 v66:=Tryz.zeroValue239
 t70:=Tryz.underlying243
 a70:=Tryz.isAgg243
 z70:=Tryz.sizeOf243
 v70:=Tryz.zeroValue243
 t76:=Tryz.underlying253
 a76:=Tryz.isAgg253
 z76:=Tryz.sizeOf253
 v76:=Tryz.zeroValue253
 t77:=Tryz.underlying125
 a77:=Tryz.isAgg125
 z77:=Tryz.sizeOf125
 v77:=Tryz.zeroValue125 }
def Tryz.cmpInt_ren:Go.Shelf.Ren:=⟨fun|5=>182|7=>168|n=>n,fun|22=>3|3=>3|4=>4|n=>n,fun|n=>n⟩
theorem Tryz.cmpInt:Go.Proofs.SlLaysC2.n5 Tryz.prog Tryz.cmpInt_ren:={
 mixed:=by kernel_rfl
 f5:=⟨Tryz.f182.name,by decide,Tryz.func182.trans (congrArg some (by kernel_rfl))⟩
 f7:=⟨Tryz.f168.name,by decide,Tryz.func168.trans (congrArg some (by kernel_rfl))⟩
 t3:=Tryz.underlying3
 a3:=Tryz.isAgg3
 z3:=Tryz.sizeOf3
 v3:=Tryz.zeroValue3
 t4:=Tryz.underlying4
 a4:=Tryz.isAgg4
 z4:=Tryz.sizeOf4
 v4:=Tryz.zeroValue4
 t22:=Tryz.underlying3
 a22:=Tryz.isAgg3
 z22:=Tryz.sizeOf3
 v22:=Tryz.zeroValue3 }
def Tryz.cmpEdge_ren:Go.Shelf.Ren:=⟨fun|5=>183|7=>185|n=>n,fun|22=>83|3=>3|4=>4|n=>n,fun|n=>n⟩
theorem Tryz.cmpEdge:Go.Proofs.SlLaysC2.n5 Tryz.prog Tryz.cmpEdge_ren:={
 mixed:=by kernel_rfl
 f5:=⟨Tryz.f183.name,by decide,Tryz.func183.trans (congrArg some (by kernel_rfl))⟩
 f7:=⟨Tryz.f185.name,by decide,Tryz.func185.trans (congrArg some (by kernel_rfl))⟩
 t3:=Tryz.underlying3
 a3:=Tryz.isAgg3
 z3:=Tryz.sizeOf3
 v3:=Tryz.zeroValue3
 t4:=Tryz.underlying4
 a4:=Tryz.isAgg4
 z4:=Tryz.sizeOf4
 v4:=Tryz.zeroValue4
 t22:=Tryz.underlying83
 a22:=Tryz.isAgg83
 z22:=Tryz.sizeOf83
 v22:=Tryz.zeroValue83 }
end Go.Proofs

namespace Go.Proofs.YtlgogjbkadckkaaGreat
open Go.RowKit Go.Shelf Go.Lib Go.Sort
def orI:List Int->Int
 | []=>0
 | z::zs=>if z=0 then orI zs else z
theorem Zzt {zs:List Int} {k:Nat} (hk:k<zs.length):orI (zs.drop k)=if at0 zs k=0 then orI (zs.drop (k+1)) else at0 zs k:=by
 rw[Zb0 hk,List.drop_eq_getElem_cons hk];rfl
theorem Ydc (a:Option Addr) (c:Nat) (zs:List Int) (w:World) (hz:Zay w a zs) (hl:zs.length<=1000000) :
 Calls Tryz.prog 181 #[.slice a zs.length c] w fun x w'=>x=.returned (.int .i64 (orI zs))/\w'=w:=by
 have HZ:=Hd hz;clear hz
 go_enter Tryz.func181,Tryz.ntmps181
 go_wp2_with fail
 go_loopw [8] (fun s8 wr=>∃ k:Nat,k<=zs.length/\s8=.int .i64 k/\w=wr/\orI zs=orI (zs.drop k)) (fun s8 _=>zs.length-(intOf s8).toNat)
 case atStart=>exact⟨0,Nat.zero_le _,rfl,rfl,rfl⟩
 case round =>
  obtain⟨k,hk,rfl,rfl,ho⟩:=hrel
  by_cases hlt:k<zs.length
  ·
   obtain⟨b,off,ha,hc⟩:=HZ.out.cells k hlt;subst ha;have hk1:(k:Int)<zs.length:=by omega
   have hs:=Zzt hlt
   by_cases h0:at0 zs k=0
   ·
    rw[if_pos h0] at hs;rw[h0] at hc;have HO:=Hd (ho.trans hs);clear ho hs h0;go_wp2_with fail;go_roundw
    case rel=>exact⟨k+1,by omega,by go_num,trivial,HO.out⟩
    case measure=>simp[intOf];omega
   ·
    rw[if_neg h0] at hs;have HO:=Hd (ho.trans hs);have hne:(at0 zs k == (0:Int))=false:=by simpa using h0
    clear ho hs h0
    generalize at0 zs k=z at hc hne HO
    go_wp2_with fail;go_ret;exact⟨by rw[HO.out];rfl,rfl⟩
  ·
   obtain rfl:k=zs.length:=by omega
   have HO:Hid (orI zs=0):=by
    refine Hd ?_
    show _=_
    rw[ho];simp[orI]
   clear ho;go_wp2_with fail;go_ret;exact⟨by rw[HO.out];rfl,rfl⟩
def cfK (f:Nat×Nat->Option Nat) (x y:Nat×Nat):Int:=orI [compareInt ((f x).getD 0:Nat) ((f y).getD 0:Nat),compareInt x.1 y.1,compareInt x.2 y.2]
theorem ltK (f:Nat×Nat->Option Nat) (x y:Nat×Nat):ltOf (cfK f) x y=decide ((f x).getD 0<(f y).getD 0\/(f x).getD 0=(f y).getD 0/\(x.1<y.1\/x.1=y.1/\x.2<y.2)):=by
 unfold ltOf cfK
 generalize (f x).getD 0=a
 generalize (f y).getD 0=b
 obtain⟨x1,x2⟩:=x;obtain⟨y1,y2⟩:=y;have hc:∀ p q:Nat,compareInt (p:Int) (q:Int)=if p<q then -1 else if p=q then 0 else 1:=fun p q=>by
  unfold compareInt
  by_cases h1:p<q
  ·
   rw[if_pos (by omega),if_pos h1]
  ·
   by_cases h2:p=q
   ·
    rw[if_neg (by omega),if_neg (by omega),if_neg h1,if_pos h2]
   ·
    rw[if_neg (by omega),if_pos (by omega),if_neg h1,if_neg h2]
 simp only[hc,orI]
 by_cases h1:a<b
 ·
  simp[h1]
 ·
  by_cases h2:a=b
  ·
   subst h2
   by_cases h3:x1<y1
   ·
    simp[h3]
   ·
    by_cases h4:x1=y1
    ·
     subst h4
     by_cases h5:x2<y2
     ·
      simp[h5]
     ·
      by_cases h6:x2=y2
      ·
       subst h6;simp
      ·
       simp[h5,h6]
    ·
     simp[h3,h4]
  ·
   simp[h1,h2]
theorem swoK (f:Nat×Nat->Option Nat):SWO (ltOf (cfK f)) where
 irrefl x:=by rw[ltK];simp
 trans x y z h1 h2:=by rw[ltK] at *;simp at *;omega
 ntrans x y z h1 h2:=by rw[ltK] at *;simp at *;omega
theorem Zug (f:Nat×Nat->Option Nat) (x y:Nat×Nat) (Bx t mb:Nat) (W:World) (cB:W.cell? ⟨Bx,0,none⟩=some (.pointer (some ⟨t,0,none⟩))) (cT:W.cell? ⟨t,0,none⟩=some (.map (some mb)))
 (hlk:∀ W' k,Below W.heap.size W W'->(Instr.lookup 191 (.map (some mb)) (.agg #[.int .i64 (k:Nat×Nat).1,.int .i64 k.2]) false).run Tryz.prog W'=.ok (.int .i64 ((f k).getD 0:Nat)) W') :
 Calls Tryz.prog 180 #[.agg #[.int .i64 x.1,.int .i64 x.2],.agg #[.int .i64 y.1,.int .i64 y.2],.pointer (some ⟨Bx,0,none⟩)] W fun e w'=>e=.returned (.int .i64 (cfK f x y))/\∃ q os',w'=grow (W.drewN q) os':=by
 obtain⟨W1,hW1⟩:∃ W1,W1=(W.alloc (.cells #[.int .i64 x.1,.int .i64 x.2] 205)).alloc (.cells #[.int .i64 y.1,.int .i64 y.2] 205):=⟨_,rfl⟩;have hb1:Below W.heap.size W W1:=by rw[hW1];exact(Zaf _ _).alloc (by simp) _
 have hx1:W1.heap[W.heap.size]?=some (.cells #[.int .i64 x.1,.int .i64 x.2] 205 (0,0)):=by rw[hW1];exact(Below.heap_alloc _ _ _ (by simp)).trans (heap_alloc_new W _)
 have hy1:W1.heap[W.heap.size+1]?=some (.cells #[.int .i64 y.1,.int .i64 y.2] 205 (0,0)):=by
  rw[hW1];have:=heap_alloc_new (W.alloc (.cells #[.int .i64 x.1,.int .i64 x.2] 205)) (.cells #[.int .i64 y.1,.int .i64 y.2] 205)
  rwa [World.size_alloc] at this
 obtain⟨x0,x1,_⟩:=cells2 hx1;obtain⟨y0,y1,_⟩:=cells2 hy1;have b1:=(hb1.cell (p:=⟨Bx,0,none⟩) (Zab cB)).trans cB;have t1:=(hb1.cell (p:=⟨t,0,none⟩) (Zab cT)).trans cT;obtain⟨i,hi⟩:∃ i:Int,i=compareInt ((f x).getD 0:Nat) ((f y).getD 0:Nat):=⟨_,rfl⟩;obtain⟨j,hj⟩:∃ j:Int,j=compareInt x.1 y.1:=⟨_,rfl⟩;obtain⟨k,hk⟩:∃ k:Int,k=compareInt x.2 y.2:=⟨_,rfl⟩;have hcf:cfK f x y=orI [i,j,k]:=by unfold cfK;rw[hi,hj,hk]
 obtain⟨W2,hW2⟩:∃ W2,W2=W1.drew.alloc (.cells #[.int .i64 i,.int .i64 j,.int .i64 k] 3):=⟨_,rfl⟩;have hb2:Below W1.heap.size W1 W2:=by rw[hW2];exact(Zah W1 1).alloc (Nat.le_refl _) _
 have lx0:=hlk W1.drew x (hb1.trans ((Zah W1 1).mono hb1.size));have ly0:=hlk W1.drew y (hb1.trans ((Zah W1 1).mono hb1.size));have lx2:=hlk W2 x (hb1.trans (hb2.mono hb1.size));have ly2:=hlk W2 y (hb1.trans (hb2.mono hb1.size));have x02:=(hb2.cell (p:=⟨W.heap.size,0,none⟩) (Zab x0)).trans x0;have x12:=(hb2.cell (p:=⟨W.heap.size,1,none⟩) (Zab x1)).trans x1;have y02:=(hb2.cell (p:=⟨W.heap.size+1,0,none⟩) (Zab y0)).trans y0;have y12:=(hb2.cell (p:=⟨W.heap.size+1,1,none⟩) (Zab y1)).trans y1;have b2:=(hb2.cell (p:=⟨Bx,0,none⟩) (Zab b1)).trans b1;have t2:=(hb2.cell (p:=⟨t,0,none⟩) (Zab t1)).trans t1;have HI:=Hd (fun w=>AnyG.cmp_Compare_int Tryz.cmpInt ((f x).getD 0:Nat) ((f y).getD 0:Nat) w);have HJ:=Hd (fun w=>AnyG.cmp_Compare_int Tryz.cmpEdge x.1 y.1 w);have HK:=Hd (fun w=>AnyG.cmp_Compare_int Tryz.cmpEdge x.2 y.2 w)
 have HOR:Hid (Calls Tryz.prog 181 #[.slice (some ⟨W1.drew.heap.size,0,none⟩) 3 3] W2 fun e w'=>e=.returned (.int .i64 (orI [i,j,k]))/\w'=W2):=Hd (Ydc _ 3 [i,j,k] W2 ⟨by simp,fun q hq=>⟨_,0,rfl,by
  rw[Nat.zero_add,hW2,cell_of_row _ _ _ _ _ _ (heap_alloc_new W1.drew _)];simp only[List.length_cons,List.length_nil] at hq
  match q,hq with
  | 0,_=>rfl
  | 1,_=>rfl
  | 2,_=>rfl⟩⟩ (by simp))
 have HW1:Hid (_=W1):=Hd hW1.symm;have HW2:Hid (_=W2):=Hd hW2.symm;have HEQ:Hid (W2=grow (W.drewN 1) #[.cells #[.int .i64 x.1,.int .i64 x.2] 205,.cells #[.int .i64 y.1,.int .i64 y.2] 205,.cells #[.int .i64 i,.int .i64 j,.int .i64 k] 3]):=Hd (by rw[hW2,hW1,Zgn,Zgn,alloc_eq_grow,alloc_eq_grow,alloc_eq_grow,grow_grow,grow_grow];rfl);rw[<- hi] at HI;rw[<- hj] at HJ;rw[<- hk] at HK;rw[hcf];clear hW1 hW2 hb1 hb2 hlk cB cT hi hj hk hcf hx1 hy1
 go_enter Tryz.func180,Tryz.ntmps180
 go_upto_region 1 with fail;rw[HW1.out];refine Zan (fun W:World=>W=W1.drew\/W=W2) false 26 [(0,false),(1,false),(2,false),(3,false),(4,false),(5,false),(6,false),(7,false),(8,false),(9,false),(10,false),(11,false),(13,false),(14,false),(15,false),(16,false),(18,false),(19,false),(20,false),(21,false),(12,true),(17,true),(22,true),(23,true),(24,true),(25,false)] (by kernel_rfl) (by kernel_rfl) (.inl rfl) ?_;simp only[planned,Zd8]
 iterate 20
  refine Zap rfl ?_;apply Exists.intro;refine⟨fun w' hw=>?_,?_⟩
  ·
   rcases hw with rfl|rfl
   ·
    go_simp;rfl
   ·
    go_simp
    all_goals (try rfl)
  simp only[Zag]
 refine Zch (R:=fun v w'=>v=.int .i64 i/\w'=W1.drew) rfl (by go_simp;rfl) ((HI.out _).mono (fun e w' h=>⟨_,h.1,.inl h.2,rfl,h.2⟩)) ?_;rintro _ w' _ ⟨rfl,rfl⟩;simp only[Zag];refine Zch (R:=fun v w'=>v=.int .i64 j/\w'=W1.drew) rfl (by go_simp;rfl) ((HJ.out _).mono (fun e w' h=>⟨_,h.1,.inl h.2,rfl,h.2⟩)) ?_;rintro _ w' _ ⟨rfl,rfl⟩;simp only[Zag];refine Zch (R:=fun v w'=>v=.int .i64 k/\w'=W1.drew) rfl (by go_simp;rfl) ((HK.out _).mono (fun e w' h=>⟨_,h.1,.inl h.2,rfl,h.2⟩)) ?_;rintro _ w' _ ⟨rfl,rfl⟩;simp only[Zag];refine Znm rfl (fun K hK=>?_);unfold Oper.wp;go_simp;rw[Zgn,HW2.out];refine hK _ _ (.inr rfl) ?_;refine Zch (R:=fun v w'=>v=.int .i64 (orI [i,j,k])/\w'=W2) rfl (by go_simp) (HOR.out.mono (fun e w' h=>⟨_,h.1,.inr h.2,rfl,h.2⟩)) ?_;rintro _ w' _ ⟨rfl,rfl⟩;simp only[Zag];refine Zap rfl ?_;apply Exists.intro;refine⟨fun w' hw=>?_,?_⟩
 ·
  go_simp;rfl
 simp only[Zag];refine Zij ?_;go_wp2_with fail;go_ret;exact⟨rfl,_,_,HEQ.out⟩
end Go.Proofs.YtlgogjbkadckkaaGreat

namespace Go.Proofs.YtlgogjbkadckkaaGreat
open Go.RowKit Go.Shelf Go.Lib Go.Sort
theorem Zry (w:World) (blk m:Nat) (dk:Array (Nat×Nat)) (os:Array Obj) {g:Nat} (hg:g<w.heap.size) (hne:g≠blk):(sortWorldK Zc9 2 w blk 0 m dk os).heap[g]?=w.heap[g]?:=by
 unfold sortWorldK grow putRowK putRow mapBlock;simp[Array.getElem?_append,Array.getElem?_modify,Array.getElem_modify,hg,Ne.symm hne]
theorem Zyc (w:World) (blk m:Nat) (dk:Array (Nat×Nat)) (os:Array Obj):w.heap.size<=(sortWorldK Zc9 2 w blk 0 m dk os).heap.size:=by
 have h:(sortWorldK Zc9 2 w blk 0 m dk os).heap.size=w.heap.size+os.size:=by
  unfold sortWorldK grow putRowK;simp
 omega
theorem Yc9 {w:World} {mb:Nat} {lm:List ((Nat×Nat)×Value)} {f:Nat×Nat->Option Nat} (h:Zaz w mb encE lm) (hf:∀ k,getL lm k=(f k).map (fun(id:Nat)=>Value.int .i64 id)) (k:Nat×Nat) :
 (Instr.lookup 191 (.map (some mb)) (.agg #[.int .i64 k.1,.int .i64 k.2]) false).run Tryz.prog w=.ok (.int .i64 ((f k).getD 0:Nat)) w:=by
 have h1:=h.lookup Zpn Tryz.underlying191 Tryz.zeroValue3 k false;rw[hf k] at h1;cases hk:f k with
 | none=>rw[hk] at h1;exact h1
 | some id=>rw[hk] at h1;exact h1
theorem Zri {f:Nat×Nat->Option Nat} {ks:List (Nat×Nat)} {Bx t mb blk cap:Nat} {w:World} {lm:List ((Nat×Nat)×Value)} (hH:HoldsK Zc9 2 w blk 0 ks.toArray) (hblk:blk<w.heap.size) (hlen:ks.length<1000000000)
 (cB:w.cell? ⟨Bx,0,none⟩=some (.pointer (some ⟨t,0,none⟩))) (cT:w.cell? ⟨t,0,none⟩=some (.map (some mb))) (hm:Zaz w mb encE lm) (hf:∀ k,getL lm k=(f k).map (fun(id:Nat)=>Value.int .i64 id)) (n1:Bx≠blk) (n2:t≠blk) (n3:mb≠blk) :
 Calls Tryz.prog 179 #[.slice (some ⟨blk,0,none⟩) ks.length cap,.func (.func 180) #[] #[.pointer (some ⟨Bx,0,none⟩)]] w fun e w'=>e=.returned (.tuple #[])/\∃ ks':List (Nat×Nat),ks'.Perm ks/\HoldsK Zc9 2 w' blk 0 ks'.toArray/\w.heap.size<=w'.heap.size/\w'.os=w.os/\w'.tape=w.tape/\w'.output=w.output/\∀ g,g<w.heap.size->g≠blk->w'.heap[g]?=w.heap[g]?:=by
 have hcmp:CmpLays Tryz.prog 180 #[.pointer (some ⟨Bx,0,none⟩)] Zc9 2 (cfK f) blk 0 ks.toArray.size w:=by
  intro m os dk hs x y;have hk:∀ {p:Addr} {v:Value},w.cell? p=some v->p.block≠blk->(sortWorldK Zc9 2 w blk 0 m dk os).cell? p=some v:=fun hc hn=>(World.cell?_of_block (w:=w) (Zry w blk m dk os (Zab hc) hn)).trans hc
  refine Zug f x y Bx t mb _ (hk cB n1) (hk cT n2) (fun W' k hb=>?_);obtain⟨es,c,hme,rest⟩:=hm.ex;refine Yc9 (lm:=lm) ⟨⟨es,c,Eq.trans ?_ hme,rest⟩,hm.nodup⟩ hf k;exact(hb.block mb (Nat.lt_of_lt_of_le hm.lt (Zyc w blk m dk os))).trans (Zry w blk m dk os hm.lt n3)
 have hcon:=AnyQ.slices_SortFunc Tryz.sortKeys 2 Tryz.isAgg205 Tryz.sizeOf205 Zc9 (fun _=>rfl) (fun x v hv=>by simp[Zc9] at hv;rcases hv with rfl|rfl<;>rfl) (cfK f) (swoK f) 180 #[.pointer (some ⟨Bx,0,none⟩)] blk 0 cap ks.toArray w (enters_of Tryz.func180 (by kernel_rfl) rfl) hcmp hH hblk (by simp;omega)
 change Calls Tryz.prog 179 _ _ _ at hcon
 have e:ks.toArray.size=ks.length:=by simp
 rw[e] at hcon;refine hcon.mono ?_;rintro x w' ⟨rfl,d',n,os,hp,_,rfl⟩;obtain⟨p1,_,p3⟩:=hp;have p1':d'.size=ks.length:=by simpa using p1
 refine⟨rfl,d'.toList,?_,?_,Zyc _ _ _ _ _,rfl,rfl,rfl,fun g hg hne=>Zry _ _ _ _ _ hg hne⟩
 ·
  have q1:d'.extract 0 ks.length=d':=by rw[<- p1'];simp
  rw[q1] at p3;simpa using p3
 ·
  have h1:HoldsK Zc9 2 (Sort.ahead w n) blk 0 ks.toArray:=hH;have h2:=holdsK_putRowK Zc9 2 (Sort.ahead w n) blk 0 ks.toArray d' h1 (by simpa using p1');have h3:=holdsK_grow Zc9 2 (putRowK Zc9 2 (Sort.ahead w n) blk 0 d') os blk 0 d' (by simp[putRowK,putRow,mapBlock,hblk]) h2;simpa using(show HoldsK Zc9 2 (sortWorldK Zc9 2 w blk 0 n d' os) blk 0 d' from h3)
end Go.Proofs.YtlgogjbkadckkaaGreat

namespace Go.Proofs.YtlgogjbkadckkaaGreat
theorem Zwn {f:Nat×Nat->Option Nat} {ks:List (Nat×Nat)} {lm:List ((Nat×Nat)×Value)} (hp:ks.Perm (lm.map Prod.fst)) (hn:(lm.map Prod.fst).Nodup) (hf:∀ k,getL lm k=(f k).map (fun(id:Nat)=>Value.int .i64 id)) {xs:List ((Nat×Nat)×Nat)} (hx:xs=ks.map (fun k=>(k,(f k).getD 0))) :
 (xs.map Prod.fst).Nodup/\∀ k id,(k,id)∈xs↔f k=some id:=by
 subst hx;have e:(ks.map (fun k=>(k,(f k).getD 0))).map Prod.fst=ks:=by simp[List.map_map,Function.comp_def]
 have hm:∀ k,k∈ks↔f k≠none:=fun k=>by
  rw[hp.mem_iff];have h1:=Zcu (l:=lm) (k:=k);rw[hf k] at h1;constructor
  ·
   intro hk e;rw[e] at h1;obtain⟨p,hp',rfl⟩:=List.mem_map.1 hk;exact h1.1 rfl p hp' rfl
  ·
   intro hk
   by_cases hc:k∈lm.map Prod.fst
   ·
    exact hc
   ·
    exfalso;have:=h1.2 (fun p hp' e=>hc (List.mem_map.2 ⟨p,hp',e⟩));cases h2:f k with
    | none=>exact hk h2
    | some i=>rw[h2] at this;cases this
 refine⟨by rw[e];exact hp.nodup_iff.2 hn,fun k id=>?_⟩;simp only[List.mem_map,Prod.mk.injEq];constructor
 ·
  rintro⟨k0,h0,rfl,rfl⟩;cases h2:f k0 with
  | none=>exact absurd h2 ((hm k0).1 h0)
  | some i=>rfl
 ·
  intro h;exact⟨k,(hm k).2 (by rw[h];simp),rfl,by rw[h];rfl⟩
theorem Zz9 {α:Type} {G:List α->Prop} {xs:List α} (hg:G xs) {k:Nat} {x:α} (hx:xs[k]?=some x):∃ suf,G (xs.take k++x::suf)/\xs.take (k+1)=xs.take k++[x]:=by
 obtain⟨hk,e⟩:=List.getElem?_eq_some_iff.1 hx;refine⟨xs.drop (k+1),?_,by rw[List.take_succ_eq_append_getElem hk,e]⟩;have:xs.take k++x::xs.drop (k+1)=xs:=by
  rw[<- e,<- List.drop_eq_getElem_cons hk];exact List.take_append_drop k xs
 rw[this];exact hg
open Go.RowKit
theorem Zg4 {o:Own} {w:World} {sb:Nat} {d:Zac} {V:Nat->BF} (h:Zaq o w sb d) (hlt:Zai o w) (hk:Zaj d V) (f:Nat) (hf:okE (Zaa d) f) (v:Int) :
 Calls Tryz.prog 171 #[.pointer (some ⟨sb,0,none⟩),.int .i64 f,.int .i64 v] w fun x w'=>x=.returned (.tuple #[.int .i64 (cofs d f v).1,.int .i64 (cofs d f v).2])/\Below w.heap.size w w':=by
 have HA:=Hd (Zit h hlt hk f hf);clear h hk hlt hf;unfold atV at HA;unfold cofs;cases hb:Zaa d (f/2) with
 | none =>
   rw[hb] at HA;clear hb
   go_enter Tryz.func171,Tryz.ntmps171
   go_wp2_with fail;refine HA.out.mono ?_;rintro x w' ⟨rfl,hb⟩;have HB:=Hd hb;clear hb;go_wp2_with fail
   go_ret2
   exact⟨rfl,HB.out⟩
 | some b =>
   rw[hb] at HA;clear hb
   by_cases e:(b.v:Int)=v
   ·
    subst e;have HE:Hid ((if (b.v:Int)=b.v then (eflip b.lo (eneg f),eflip b.hi (eneg f)) else (f,f))=(eflip b.lo (eneg f),eflip b.hi (eneg f))):=by show _=_;rw[if_pos rfl]
    go_enter Tryz.func171,Tryz.ntmps171
    go_wp2_with fail;refine HA.out.mono ?_;rintro x w' ⟨rfl,hb⟩;have HB:=Hd hb;clear hb;go_wp2_with fail
    go_ret2
    exact⟨by first|rfl|(rw[HE.out];rfl),HB.out⟩
   ·
    have HE:Hid ((if (b.v:Int)=v then (eflip b.lo (eneg f),eflip b.hi (eneg f)) else (f,f))=(f,f)):=by show _=_;rw[if_neg e]
    have H1:((b.v:Int) == v)=false:=by simpa using e
    go_enter Tryz.func171,Tryz.ntmps171
    go_wp2_with fail;refine HA.out.mono ?_;rintro x w' ⟨rfl,hb⟩;have HB:=Hd hb;clear hb;go_wp2_with fail
    go_ret2
    exact⟨by first|rfl|(rw[HE.out];rfl),HB.out⟩
def Zex (d:Zac) (k:Nat):Zac:={ d with vars:=(d.vars.set k (d.vars.getD (k+1) 0)).set (k+1) (d.vars.getD k 0),level:=(d.level.set (d.vars.getD k 0) (k+1)).set (d.vars.getD (k+1) 0) k }
theorem Zn8:(Tryz.prog.info? 3).map (fun i=>i.size)=some 1:=by kernel_rfl
theorem Ze4 {l:List Nat} {k:Nat} (hk:k<l.length):(l.map nat64)[k]?=some (.int .i64 (l.getD k 0:Nat)):=by
 rw[List.getElem?_map,List.getElem?_eq_getElem hk];simp[nat64,List.getD,hk]
theorem Zlh {o:Own} {w:World} {sb:Nat} {d:Zac} {s:Za0} (h:Zal o w sb d s) (k:Nat) (hk:k+1<d.vars.length) (hl:d.vars.length<=64) (ha:d.vars.getD k 0<d.level.length) (hb:d.vars.getD (k+1) 0<d.level.length) :
 Calls Tryz.prog 156 #[.pointer (some ⟨s.lb,0,none⟩),.int .i64 k] w fun x w'=>x=.returned (.tuple #[])/\Zal o w' sb (Zex d k) s/\Chg Zam o o w w':=by
 obtain⟨d0,d1,_⟩:=cells2 h.lev;obtain⟨gv,cv,hvv,hogv,_⟩:=h.vars.shape (by omega);obtain⟨gl,cl,hvl,hogl,_⟩:=h.level.shape (by omega);have hlen:=h.len;have r1:=h.vars;have r2:=h.level;rw[hvv] at r1 d0;rw[hvl] at r2 d1;have a0:=r1.cell k (by simp;omega);have a1:=r1.cell (k+1) (by simp;omega);rw[Ze4 (by omega)] at a0;rw[Ze4 hk] at a1;obtain⟨A,hA⟩:∃ A,A=d.vars.getD k 0:=⟨_,rfl⟩;obtain⟨B,hB⟩:∃ B,B=d.vars.getD (k+1) 0:=⟨_,rfl⟩;rw[<- hA] at a0 ha;rw[<- hB] at a1 hb;have b0:=r2.cell A (by simpa using ha);have b1:=r2.cell B (by simpa using hb);rw[Ze4 ha] at b0;rw[Ze4 hb] at b1;have fv:=r1.frozen;have fl:=r2.frozen;have hk0:(k:Int)<d.vars.length:=by omega
 have hk1:(k:Int)+1<d.vars.length:=by omega
 have nvl:gv≠s.lb:=fun e=>by have:=h.ownl;rw[<- e,hogv] at this;cases this
 have nll:gl≠s.lb:=fun e=>by have:=h.ownl;rw[<- e,hogl] at this;cases this
 have nvg:gv≠gl:=fun e=>by rw[e,hogl] at hogv;cases hogv
 have nvs:gv≠sb:=fun e=>by have:=h.own;rw[<- e,hogv] at this;cases this
 have nls:gl≠sb:=fun e=>by have:=h.own;rw[<- e,hogl] at this;cases this
 obtain⟨LA,hLA⟩:∃ L,L=d.level.getD A 0:=⟨_,rfl⟩;obtain⟨LB,hLB⟩:∃ L,L=d.level.getD B 0:=⟨_,rfl⟩;have HFIN:Hid (∀ w1 w2:World,w1.heap=w.heap->w1.os=w.os->w1.tape=w.tape->w1.output=w.output->w2=((((w1.setCell ⟨gv,k,none⟩ (.int .i64 B)).setCell ⟨gv,k+1,none⟩ (.int .i64 A)).setCell ⟨gl,A,none⟩ (.int .i64 (k+1:Nat))).setCell ⟨gl,B,none⟩ (.int .i64 k))->Zal o w2 sb (Zex d k) s/\Chg Zam o o w w2):=by
  refine Hd ?_;rintro w1 w2 e1 e2 e3 e4 rfl;have hsz:w1.heap.size=w.heap.size:=by rw[e1]
  have hbl:Below w.heap.size w w1:=⟨e2,e3,e4,by omega,fun k _=>by rw[e1]⟩;have hb':∀ g,g≠gv->g≠gl->((((w1.setCell ⟨gv,k,none⟩ (.int .i64 B)).setCell ⟨gv,k+1,none⟩ (.int .i64 A)).setCell ⟨gl,A,none⟩ (.int .i64 (k+1:Nat))).setCell ⟨gl,B,none⟩ (.int .i64 k)).heap[g]?=w.heap[g]?:=fun g n1 n2=>by
   rw[Zad n2,Zad n2,Zad n1,Zad n1,e1]
  have k1:∀ {g r},o g=some r->r ≠ .vars->r ≠ .level->((((w1.setCell ⟨gv,k,none⟩ (.int .i64 B)).setCell ⟨gv,k+1,none⟩ (.int .i64 A)).setCell ⟨gl,A,none⟩ (.int .i64 (k+1:Nat))).setCell ⟨gl,B,none⟩ (.int .i64 k)).heap[g]?=w.heap[g]?:=fun hg n1 n2=>hb' _ (by rintro rfl;rw[hogv] at hg;cases hg;exact n1 rfl) (by rintro rfl;rw[hogl] at hg;cases hg;exact n2 rfl)
  have hvr:=h.vars.keep (w':=w1) (fun g _=>by rw[e1]) (fun _ h=>h);rw[hvv] at hvr;have hvr2:=((((hvr.stored k (.int .i64 B)).stored (k+1) (.int .i64 A)).setCell_other (p:=⟨gl,A,none⟩) (by rw[hogl];simp) (.int .i64 (k+1:Nat))).setCell_other (p:=⟨gl,B,none⟩) (by rw[hogl];simp) (.int .i64 k));have hlr:=h.level.keep (w':=w1) (fun g _=>by rw[e1]) (fun _ h=>h);rw[hvl] at hlr;have hlr2:=(((hlr.setCell_other (p:=⟨gv,k,none⟩) (by rw[hogv];simp) (.int .i64 B)).setCell_other (p:=⟨gv,k+1,none⟩) (by rw[hogv];simp) (.int .i64 A)).stored A (.int .i64 (k+1:Nat))).stored B (.int .i64 k)
  refine⟨⟨h.own,h.ownl,(k1 h.own (by simp) (by simp)).trans h.blk,(k1 h.ownl (by simp) (by simp)).trans h.lev,?_,?_,h.pool.keep (fun g r hg hr=>k1 hg (by rintro rfl;simp at hr) (by rintro rfl;simp at hr)) (fun _ _ h=>h),h.tabs.keep (fun g hg=>k1 hg (by simp) (by simp)) (fun _ h=>h),
   fun v hv=>(h.tab v hv).keep (fun g r hg hr=>k1 hg (by rintro rfl;simp at hr) (by rintro rfl;simp at hr)) (fun _ _ h=>h),h.counts.keep (fun g hg=>k1 hg (by simp) (by simp)) (fun _ h=>h),by simp[Zex,h.len],by simp[Zex,h.tlen]⟩,?_⟩
  ·
   rw[hvv];simp only[Zex,List.length_set,List.map_set,<- hA,<- hB];exact hvr2
  ·
   rw[hvl];simp only[Zex,List.length_set,List.map_set,<- hA,<- hB];exact hlr2
  ·
   exact((((Chg.of_below hbl Zam o).setCell (p:=⟨gv,k,none⟩) hogv (by simp[Zam]) _).setCell (p:=⟨gv,k+1,none⟩) hogv (by simp[Zam]) _).setCell (p:=⟨gl,A,none⟩) hogl (by simp[Zam]) _).setCell (p:=⟨gl,B,none⟩) hogl (by simp[Zam]) _
 rw[<- hLA] at b0;rw[<- hLB] at b1;have hA1:(A:Int)<d.level.length:=by omega
 have hB1:(B:Int)<d.level.length:=by omega
 have HRV:=Hd r1;have HRL:=Hd r2;have hwr:IntKind.i64.wrap ((k:Int)+1)=((k+1:Nat):Int):=by rw[IntWalk.i64_in _ (by omega)];rfl
 have hk2:((k+1:Nat):Int)<d.vars.length:=by omega
 clear h hvv hvl hogv hogl hA hB hLA hLB r1 r2 hlen
 go_enter Tryz.func156,Tryz.ntmps156
 go_upto_region 0 with fail
 go_quiet (fail)
 go_upto_region 1 with fail;refine Zan (fun W:World=>W.cell? ⟨s.lb,0,none⟩=some (.slice (some ⟨gv,0,none⟩) d.vars.length cv)/\True) true 16 [(0,false),(1,false),(2,false),(3,false),(4,false),(5,false),(6,false),(7,false),(8,false),(9,false),(10,false),(11,false),(12,false),(13,false),(14,true),(15,false),(16,true)] (by kernel_rfl) (by kernel_rfl) ⟨d0,trivial⟩ ?_;simp only[planned,Zd8]
 iterate 14
  refine Zap rfl ?_;apply Exists.intro;refine⟨fun w' hw=>?_,?_⟩
  ·
   obtain⟨h1,_⟩:=hw;go_simp;rfl
  simp only[Zag]
 refine Zkt (w':=(w.drewN nq).drew.setCell ⟨gv,k,none⟩ (.int .i64 B)) rfl rfl (Zdy (w:=(w.drewN nq).drew) Zn8 a0 (fv _) rfl rfl) ⟨Za9 (w:=(w.drewN nq).drew) d0 (.inl nvl),trivial⟩ ?_;simp only[Zag]
 iterate 1
  refine Zap rfl ?_;apply Exists.intro;refine⟨fun w' hw=>?_,?_⟩
  ·
   obtain⟨h1,_⟩:=hw;go_simp;rfl
  simp only[Zag]
 refine Zdd (w':=((w.drewN nq).drew.setCell ⟨gv,k,none⟩ (.int .i64 B)).setCell ⟨gv,k+1,none⟩ (.int .i64 A)) rfl rfl (Zdy Zn8 (Za9 (w:=(w.drewN nq).drew) a1 (.inr (by omega))) ((World.frozen?_setCell _ _ _ _).trans (fv _)) rfl rfl) ?_;simp only[Zag];obtain⟨w4,hw4⟩:∃ w4,w4=((w.drewN nq).drew.setCell ⟨gv,k,none⟩ (.int .i64 B)).setCell ⟨gv,k+1,none⟩ (.int .i64 A):=⟨_,rfl⟩;have e1:w4.cell? ⟨s.lb,1,none⟩=some (.slice (some ⟨gl,0,none⟩) d.level.length cl):=by rw[hw4];exact Za9 (Za9 (w:=(w.drewN nq).drew) d1 (.inl nvl)) (.inl nvl)
 have g0:w4.cell? ⟨gl,A,none⟩=some (.int .i64 LA):=by rw[hw4];exact Za9 (Za9 (w:=(w.drewN nq).drew) b0 (.inl nvg)) (.inl nvg)
 have g1:w4.cell? ⟨gl,B,none⟩=some (.int .i64 LB):=by rw[hw4];exact Za9 (Za9 (w:=(w.drewN nq).drew) b1 (.inl nvg)) (.inl nvg)
 have fl4:∀ j,w4.frozen? ⟨gl,j,none⟩=false:=fun j=>by rw[hw4];exact(World.frozen?_setCell _ _ _ _).trans ((World.frozen?_setCell _ _ _ _).trans (fl j))
 have HW4:=Hd hw4;rw[<- hw4];clear hw4 a0 a1 b0 b1 d0 d1 fv fl;go_upto_region 2 with fail;refine Zan (fun W:World=>W.cell? ⟨s.lb,1,none⟩=some (.slice (some ⟨gl,0,none⟩) d.level.length cl)/\True) true 16 [(0,false),(1,false),(2,false),(3,false),(4,false),(5,false),(6,false),(7,false),(8,false),(9,false),(10,false),(11,false),(12,false),(13,false),(14,true),(15,false),(16,true)] (by kernel_rfl) (by kernel_rfl) ⟨e1,trivial⟩ ?_;simp only[planned,Zd8]
 iterate 14
  refine Zap rfl ?_;apply Exists.intro;refine⟨fun w' hw=>?_,?_⟩
  ·
   obtain⟨h1,_⟩:=hw;go_simp;rfl
  simp only[Zag]
 refine Zkt (w':=w4.drew.setCell ⟨gl,A,none⟩ (.int .i64 (k+1:Nat))) rfl rfl (Zdy (w:=w4.drew) Zn8 g0 (fl4 _) rfl rfl) ⟨Za9 (w:=w4.drew) e1 (.inl nll),trivial⟩ ?_;simp only[Zag]
 iterate 1
  refine Zap rfl ?_;apply Exists.intro;refine⟨fun w' hw=>?_,?_⟩
  ·
   obtain⟨h1,_⟩:=hw;go_simp;rfl
  simp only[Zag]
 have g1':∃ u,(w4.drew.setCell ⟨gl,A,none⟩ (.int .i64 (k+1:Nat))).cell? ⟨gl,B,none⟩=some u:=Zbd (w:=w4.drew) g1;obtain⟨u,g1'⟩:=g1';refine Zdd (w':=(w4.drew.setCell ⟨gl,A,none⟩ (.int .i64 (k+1:Nat))).setCell ⟨gl,B,none⟩ (.int .i64 k)) rfl rfl (Zdy Zn8 g1' ((World.frozen?_setCell _ _ _ _).trans (fl4 _)) rfl rfl) ?_;simp only[Zag];go_wp2_with fail;go_end0;obtain⟨q1,q2⟩:=HFIN.out ((w.drewN nq).drew.drew) ((w4.drew.setCell ⟨gl,A,none⟩ (.int .i64 (k+1:Nat))).setCell ⟨gl,B,none⟩ (.int .i64 k)) rfl rfl rfl rfl (by rw[HW4.out];rfl);exact⟨rfl,q1,q2⟩
end Go.Proofs.YtlgogjbkadckkaaGreat

namespace Go.Proofs.YtlgogjbkadckkaaGreat
section
variable {n:Nat} {lev:Nat->Nat} {N0:Nat->Option BN} {V0:Nat->BF} {x y:Nat}
def Ze9 (lev:Nat->Nat) (x y:Nat):Nat->Nat:=fun v=>if v=x then lev y else if v=y then lev x else lev v
def isV (N:Nat->Option BN) (y e:Nat):Prop:=∃ c,N (e/2)=some c/\c.v=y
def Turns (N:Nat->Option BN) (x y:Nat) (i:Nat):Prop:=∃ b,N i=some b/\b.v=x/\(isV N y b.lo\/isV N y b.hi)
def lowE (n:Nat) (lev:Nat->Nat) (N:Nat->Option BN) (y e:Nat):Prop:=okE N e/\lev y<lvE n lev N e
def midE (n:Nat) (lev:Nat->Nat) (N0 N:Nat->Option BN) (x y e:Nat):Prop:=lowE n lev N0 y e\/∃ c,N (e/2)=some c/\c.v=x/\¬ Turns N0 x y (e/2)
structure Ze0 (n:Nat) (lev:Nat->Nat) (N0:Nat->Option BN) (V0:Nat->BF) (x y:Nat) (done:Nat->Prop) (N:Nat->Option BN) (V:Nat->BF):Prop where
 n0:N 0=none
 ext:∀ i,(i=0\/∃ b,N0 i=some b)->V i=V0 i
 keep:∀ i b,N0 i=some b->¬ done i->N i=some b
 fresh:∀ i b,N i=some b->N0 i=none->b.v=x/\lowE n lev N0 y b.lo/\lowE n lev N0 y b.hi/\b.hi%2=0/\b.lo≠b.hi/\V i=iteF x (ef V0 b.hi) (ef V0 b.lo)
 dn:∀ i,done i->Turns N0 x y i/\∃ b,N i=some b/\b.v=y/\midE n lev N0 N x y b.lo/\midE n lev N0 N x y b.hi/\b.hi%2=0/\b.lo≠b.hi/\V0 i=iteF y (ef V b.hi) (ef V b.lo)
 xu:∀ i j b,N i=some b->N j=some b->b.v=x->¬ Turns N0 x y i->¬ Turns N0 x y j->i=j
theorem Zfy {V:Nat->BF} (hext:∀ i,(i=0\/∃ b,N0 i=some b)->V i=V0 i) {e:Nat} (h:okE N0 e):ef V e=ef V0 e:=by
 funext ρ;simp only[ef,hext _ h]
theorem Ze0.start (h:Dag n lev N0 V0) (x y:Nat):Ze0 n lev N0 V0 x y (fun _=>False) N0 V0 :=
 ⟨h.none0,fun _ _=>rfl,fun _ _ h _=>h,fun i b hb hn=>by (rw[hn] at hb;cases hb),fun _ h=>h.elim,fun i j b hi hj _ _ _=>h.uniq i j b hi hj⟩
variable {done:Nat->Prop} {N:Nat->Option BN} {V:Nat->BF}
theorem Ze0.has (m:Ze0 n lev N0 V0 x y done N V) {i:Nat} {b:BN} (hb:N0 i=some b):∃ b',N i=some b':=by
 by_cases hd:done i
 ·
  obtain⟨_,b',hb',_⟩:=m.dn i hd;exact⟨b',hb'⟩
 ·
  exact⟨b,m.keep i b hb hd⟩
theorem Ze0.add (m:Ze0 n lev N0 V0 x y done N V) {id:Nat} {b:BN} (hf:N id=none) (hid:id≠0) (hv:b.v=x)
 (hlo:lowE n lev N0 y b.lo) (hhi:lowE n lev N0 y b.hi) (hr:b.hi%2=0) (hne:b.lo≠b.hi) (hnew:∀ i,¬ Turns N0 x y i->N i≠some b) :
 Ze0 n lev N0 V0 x y done (addN N id b) (addV V id b):=by
 have hf0:N0 id=none:=by
  cases e:N0 id with
  | none=>rfl
  | some c=>obtain⟨b',hb'⟩:=m.has e;rw[hf] at hb';cases hb'
 have ne0:∀ i,(i=0\/∃ b,N0 i=some b)->i≠id:=by
  rintro i (rfl|⟨c,hc⟩)
  ·
   exact Ne.symm hid
  ·
   rintro rfl;rw[hf0] at hc;cases hc
 have cs:∀ i c,addN N id b i=some c->(i=id/\c=b)\/(i≠id/\N i=some c):=by
  intro i c hx
  by_cases e:i=id
  ·
   subst e;rw[Zbk] at hx;exact .inl ⟨rfl,(Option.some.inj hx).symm⟩
  ·
   rw[Zaw _ e] at hx;exact .inr ⟨e,hx⟩
 have hext:∀ i,(i=0\/∃ b,N0 i=some b)->addV V id b i=V0 i:=fun i hi=>by
  simp only[addV,if_neg (ne0 i hi)];exact m.ext i hi
 refine⟨by rw[Zaw _ (Ne.symm hid)];exact m.n0,hext,?_,?_,?_,?_⟩
 ·
  intro i c hc hd;rw[Zaw _ (ne0 i (.inr ⟨c,hc⟩))];exact m.keep i c hc hd
 ·
  intro i c hc hn;rcases cs i c hc with ⟨e1,e2⟩|⟨hne',hc'⟩
  ·
   subst e1;subst e2
   exact⟨hv,hlo,hhi,hr,hne,by simp only[addV,if_true,hv,Zfy m.ext hlo.1,Zfy m.ext hhi.1]⟩
  ·
   obtain⟨h1,h2,h3,h4,h5,h6⟩:=m.fresh i c hc' hn;exact⟨h1,h2,h3,h4,h5,by simp only[addV,if_neg hne'];exact h6⟩
 ·
  intro i hd;obtain⟨hT,c,hc,h1,h2,h3,h4,h5,h6⟩:=m.dn i hd;have hmid:∀ e,midE n lev N0 N x y e->midE n lev N0 (addN N id b) x y e/\ef (addV V id b) e=ef V e:=by
   rintro e (hl|⟨d,hd1,hd2,hd3⟩)
   ·
    exact⟨.inl hl,by rw[Zfy hext hl.1,Zfy m.ext hl.1]⟩
   ·
    have hne':e/2≠id:=by rintro e';rw[e',hf] at hd1;cases hd1
    refine⟨.inr ⟨d,by rw[Zaw _ hne'];exact hd1,hd2,hd3⟩,?_⟩;funext ρ;simp only[ef,addV,if_neg hne']
  have hii:i≠id:=ne0 i (.inr (by obtain⟨q,hq,_⟩:=hT;exact⟨q,hq⟩));exact⟨hT,c,by rw[Zaw _ hii];exact hc,h1,(hmid _ h2).1,(hmid _ h3).1,h4,h5,by rw[(hmid _ h2).2,(hmid _ h3).2];exact h6⟩
 ·
  intro i j c hi hj hcx ti tj;rcases cs i c hi with ⟨e1,e2⟩|⟨_,hi'⟩
  ·
   rcases cs j c hj with ⟨e3,_⟩|⟨_,hj'⟩
   ·
    rw[e1,e3]
   ·
    subst e2;exact absurd hj' (hnew j tj)
  ·
   rcases cs j c hj with ⟨_,e2⟩|⟨_,hj'⟩
   ·
    subst e2;exact absurd hi' (hnew i ti)
   ·
    exact m.xu i j c hi' hj' hcx ti tj
def setN (N:Nat->Option BN) (i:Nat) (b:BN):Nat->Option BN:=fun j=>if j=i then some b else N j
theorem Ze0.turn (m:Ze0 n lev N0 V0 x y done N V) (hxy:x≠y) {i lo hi:Nat} (hT:Turns N0 x y i) (hlo:midE n lev N0 N x y lo) (hhi:midE n lev N0 N x y hi) (hr:hi%2=0) (hne:lo≠hi)
 (hV:V0 i=iteF y (ef V hi) (ef V lo)):Ze0 n lev N0 V0 x y (fun j=>done j\/j=i) (setN N i ⟨y,lo,hi⟩) V:=by
 obtain⟨b0,hb0,hbx,hby⟩:=hT;have hT:Turns N0 x y i:=⟨b0,hb0,hbx,hby⟩;have hi0:i≠0:=by
  rintro rfl;obtain⟨b',hb'⟩:=m.has hb0;rw[m.n0] at hb';cases hb'
 have cs:∀ j c,setN N i ⟨y,lo,hi⟩ j=some c->(j=i/\c=⟨y,lo,hi⟩)\/(j≠i/\N j=some c):=by
  intro j c hx
  by_cases e:j=i
  ·
   subst e;simp only[setN,if_true,Option.some.injEq] at hx;exact .inl ⟨rfl,hx.symm⟩
  ·
   simp only[setN,if_neg e] at hx;exact .inr ⟨e,hx⟩
 have hmid:∀ e,midE n lev N0 N x y e->midE n lev N0 (setN N i ⟨y,lo,hi⟩) x y e:=by
  rintro e (hl|⟨d,hd1,hd2,hd3⟩)
  ·
   exact .inl hl
  ·
   have hne':e/2≠i:=by rintro e';rw[e'] at hd3;exact hd3 hT
   exact .inr ⟨d,by simp only[setN,if_neg hne'];exact hd1,hd2,hd3⟩
 refine⟨by simp only[setN,if_neg (Ne.symm hi0)];exact m.n0,m.ext,?_,?_,?_,?_⟩
 ·
  intro j c hc hd;have hji:j≠i:=fun e=>hd (.inr e)
  simp only[setN,if_neg hji];exact m.keep j c hc (fun h=>hd (.inl h))
 ·
  intro j c hc hn;rcases cs j c hc with ⟨e1,_⟩|⟨_,hc'⟩
  ·
   subst e1;rw[hb0] at hn;cases hn
  ·
   exact m.fresh j c hc' hn
 ·
  intro j hd
  by_cases e:j=i
  ·
   subst e;exact⟨hT,⟨y,lo,hi⟩,by simp only[setN,if_true],rfl,hmid _ hlo,hmid _ hhi,hr,hne,hV⟩
  ·
   obtain⟨hTj,c,hc,h1,h2,h3,h4,h5,h6⟩:=m.dn j (hd.resolve_right e);exact⟨hTj,c,by simp only[setN,if_neg e];exact hc,h1,hmid _ h2,hmid _ h3,h4,h5,h6⟩
 ·
  intro j k c hj hk hcx tj tk;rcases cs j c hj with ⟨e1,e2⟩|⟨_,hj'⟩
  ·
   subst e2;exact absurd hcx.symm hxy
  ·
   rcases cs k c hk with ⟨e1,e2⟩|⟨_,hk'⟩
   ·
    subst e2;exact absurd hcx.symm hxy
   ·
    exact m.xu j k c hj' hk' hcx tj tk
theorem Zhf (lev:Nat->Nat) (x y:Nat):Ze9 lev x y x=lev y:=by simp[Ze9]
theorem Zhg (lev:Nat->Nat) {x y:Nat} (h:x≠y):Ze9 lev x y y=lev x:=by simp[Ze9,Ne.symm h]
theorem Zk7 (lev:Nat->Nat) {x y v:Nat} (hx:v≠x) (hy:v≠y):Ze9 lev x y v=lev v:=by simp[Ze9,hx,hy]
theorem Zw6 {e:Nat} (hxl:lev x<lev y) (hl:lowE n lev N0 y e) {c:BN} (hc:N0 (e/2)=some c):c.v≠x/\c.v≠y:=by
 have:=hl.2;simp only[lvE,hc] at this;exact⟨by rintro e;rw[e] at this;omega,by rintro e;rw[e] at this;omega⟩
theorem Ze0.final (h:Dag n lev N0 V0) (hx:x<n) (hy:y<n) (hl:lev y=lev x+1) (m:Ze0 n lev N0 V0 x y done N V) (hall:∀ i,Turns N0 x y i->done i):Dag n (Ze9 lev x y) N V:=by
 have hxy:x≠y:=by rintro rfl;omega
 have hlt:lev x<lev y:=by omega
 have kinds:∀ i b,N i=some b->(N0 i=none/\b.v=x/\lowE n lev N0 y b.lo/\lowE n lev N0 y b.hi/\b.hi%2=0/\b.lo≠b.hi/\V i=iteF x (ef V0 b.hi) (ef V0 b.lo)) \/
  (Turns N0 x y i/\b.v=y/\midE n lev N0 N x y b.lo/\midE n lev N0 N x y b.hi/\b.hi%2=0/\b.lo≠b.hi/\V0 i=iteF y (ef V b.hi) (ef V b.lo)) \/
  (N0 i=some b/\¬ Turns N0 x y i):=by
  intro i b hb;cases e:N0 i with
  | none=>exact .inl ⟨rfl,m.fresh i b hb e⟩
  | some c =>
    right
    by_cases hd:done i
    ·
     obtain⟨hT,b',hb',rest⟩:=m.dn i hd;obtain rfl:b'=b:=Option.some.inj (hb'.symm.trans hb);exact .inl ⟨hT,rest⟩
    ·
     have:=m.keep i c e hd;obtain rfl:c=b:=Option.some.inj (this.symm.trans hb);exact .inr ⟨rfl,fun hT=>hd (hall i hT)⟩
 have low:∀ e,lowE n lev N0 y e->okE N e/\lvE n (Ze9 lev x y) N e=lvE n lev N0 e/\ef V e=ef V0 e:=by
  intro e he;refine⟨?_,?_,Zfy m.ext he.1⟩
  ·
   rcases he.1 with h0|⟨c,hc⟩
   ·
    exact .inl h0
   ·
    obtain⟨b',hb'⟩:=m.has hc;exact .inr ⟨b',hb'⟩
  ·
   rcases he.1 with h0|⟨c,hc⟩
   ·
    simp only[lvE,h0,m.n0,h.none0]
   ·
    have hcv:=Zw6 hlt he hc;have hnd:¬ done (e/2):=fun hd=>by
     obtain⟨⟨q,hq,hqx,_⟩,_⟩:=m.dn _ hd;rw[hc] at hq;cases hq;exact hcv.1 hqx
    simp only[lvE,m.keep _ _ hc hnd,hc,Zk7 lev hcv.1 hcv.2]
 have mid:∀ e,midE n lev N0 N x y e->okE N e/\lev x<lvE n (Ze9 lev x y) N e:=by
  rintro e (he|⟨c,hc,hcx,_⟩)
  ·
   obtain⟨h1,h2,_⟩:=low e he;exact⟨h1,by rw[h2];have:=he.2;omega⟩
  ·
   exact⟨.inr ⟨c,hc⟩,by simp only[lvE,hc,hcx,Zhf];omega⟩
 have old:∀ i b e,N0 i=some b->¬ Turns N0 x y i->(e=b.lo\/e=b.hi)->okE N e/\Ze9 lev x y b.v<lvE n (Ze9 lev x y) N e/\ef V e=ef V0 e:=by
  intro i b e hb hnT he;have ho:okE N0 e:=by rcases he with rfl|rfl;exact h.okLo _ _ hb;exact h.okHi _ _ hb
  have hlv:lev b.v<lvE n lev N0 e:=by rcases he with rfl|rfl;exact h.lvLo _ _ hb;exact h.lvHi _ _ hb
  have hny:b.v=x->¬ isV N0 y e:=fun hbx hiv=>hnT ⟨b,hb,hbx,by rcases he with rfl|rfl;exact .inl hiv;exact .inr hiv⟩
  refine⟨?_,?_,Zfy m.ext ho⟩
  ·
   rcases ho with h0|⟨c,hc⟩
   ·
    exact .inl h0
   ·
    obtain⟨b',hb'⟩:=m.has hc;exact .inr ⟨b',hb'⟩
  ·
   by_cases hbx:b.v=x
   ·
    have hlow:lowE n lev N0 y e:=by
     refine⟨ho,?_⟩;rw[hbx] at hlv;rcases ho with h0|⟨c,hc⟩
     ·
      simp only[lvE,h0,h.none0] at hlv ⊢;exact h.lt y hy
     ·
      simp only[lvE,hc] at hlv ⊢;have:c.v≠y:=fun e'=>hny hbx ⟨c,hc,e'⟩
      have h2:lev c.v≠lev y:=fun e'=>this (h.inj _ _ (h.var _ _ hc) hy e')
      omega
    rw[(low e hlow).2.1,hbx,Zhf];exact hlow.2
   ·
    by_cases hby:b.v=y
    ·
     have hlow:lowE n lev N0 y e:=⟨ho,by rw[hby] at hlv;exact hlv⟩;rw[(low e hlow).2.1,hby,Zhg lev hxy];have:=hlow.2;omega
    ·
     rw[Zk7 lev hbx hby];rcases ho with h0|⟨c,hc⟩
     ·
      simp only[lvE,h0,m.n0];exact h.lt _ (h.var _ _ hb)
     ·
      simp only[lvE,hc] at hlv;have hcn:=h.var _ _ hc
      by_cases hd:done (e/2)
      ·
       obtain⟨⟨q,hq,hqx,_⟩,b',hb',hb'y,_⟩:=m.dn _ hd;rw[hc] at hq;cases hq
       simp only[lvE,hb',hb'y,Zhg lev hxy];rw[hqx] at hlv;exact hlv
      ·
       simp only[lvE,m.keep _ _ hc hd]
       by_cases hcx:c.v=x
       ·
        rw[hcx,Zhf];rw[hcx] at hlv;omega
       ·
        by_cases hcy:c.v=y
        ·
         rw[hcy,Zhg lev hxy];rw[hcy] at hlv;have h2:lev b.v≠lev x:=fun e'=>hbx (h.inj _ _ (h.var _ _ hb) hx e')
         omega
        ·
         rw[Zk7 lev hcx hcy];exact hlv
 refine⟨fun ρ=>by rw[m.ext 0 (.inl rfl)];exact h.one ρ,m.n0,?_,?_,?_,?_,?_,?_,?_,?_,?_,?_,?_⟩
 ·
  intro i b hb;rcases kinds i b hb with ⟨_,hv,_⟩|⟨_,hv,_⟩|⟨h0,_⟩
  ·
   rw[hv];exact hx
  ·
   rw[hv];exact hy
  ·
   exact h.var _ _ h0
 ·
  intro u v hu hv he;have hs:∀ u,u<n->Ze9 lev x y u=lev (if u=x then y else if u=y then x else u):=by
   intro u _;simp only[Ze9];(split;· rfl);split<;>rfl
  have hb:∀ u,u<n->(if u=x then y else if u=y then x else u)<n:=by
   intro u hu;(split;· exact hy);(split;· exact hx);exact hu
  rw[hs u hu,hs v hv] at he;have:=h.inj _ _ (hb u hu) (hb v hv) he
  by_cases a:u=x
  ·
   rw[if_pos a] at this
   by_cases b:v=x
   ·
    rw[a,b]
   ·
    rw[if_neg b] at this
    by_cases c:v=y
    ·
     rw[if_pos c] at this;exact absurd this.symm hxy
    ·
     rw[if_neg c] at this;exact absurd this.symm c
  ·
   rw[if_neg a] at this
   by_cases b:v=x
   ·
    rw[if_pos b] at this
    by_cases c:u=y
    ·
     rw[if_pos c] at this;exact absurd this hxy
    ·
     rw[if_neg c] at this;exact absurd this c
   ·
    rw[if_neg b] at this
    by_cases c:u=y
    ·
     rw[if_pos c] at this
     by_cases d:v=y
     ·
      rw[c,d]
     ·
      rw[if_neg d] at this;exact absurd this.symm b
    ·
     rw[if_neg c] at this
     by_cases d:v=y
     ·
      rw[if_pos d] at this;exact absurd this a
     ·
      rw[if_neg d] at this;exact this
 ·
  intro v hv;simp only[Ze9];split
  ·
   exact h.lt y hy
  ·
   split
   ·
    exact h.lt x hx
   ·
    exact h.lt v hv
 ·
  intro i b hb;rcases kinds i b hb with ⟨_,_,hlo,_⟩|⟨_,_,hlo,_⟩|⟨h0,hnT⟩
  ·
   exact(low _ hlo).1
  ·
   exact(mid _ hlo).1
  ·
   exact(old i b b.lo h0 hnT (.inl rfl)).1
 ·
  intro i b hb;rcases kinds i b hb with ⟨_,_,_,hhi,_⟩|⟨_,_,_,hhi,_⟩|⟨h0,hnT⟩
  ·
   exact(low _ hhi).1
  ·
   exact(mid _ hhi).1
  ·
   exact(old i b b.hi h0 hnT (.inr rfl)).1
 ·
  intro i b hb;rcases kinds i b hb with ⟨_,hv,hlo,_⟩|⟨_,hv,hlo,_⟩|⟨h0,hnT⟩
  ·
   rw[hv,Zhf,(low _ hlo).2.1];exact hlo.2
  ·
   rw[hv,Zhg lev hxy];exact(mid _ hlo).2
  ·
   exact(old i b b.lo h0 hnT (.inl rfl)).2.1
 ·
  intro i b hb;rcases kinds i b hb with ⟨_,hv,_,hhi,_⟩|⟨_,hv,_,hhi,_⟩|⟨h0,hnT⟩
  ·
   rw[hv,Zhf,(low _ hhi).2.1];exact hhi.2
  ·
   rw[hv,Zhg lev hxy];exact(mid _ hhi).2
  ·
   exact(old i b b.hi h0 hnT (.inr rfl)).2.1
 ·
  intro i b hb;rcases kinds i b hb with ⟨_,_,_,_,hr,_⟩|⟨_,_,_,_,hr,_⟩|⟨h0,_⟩
  ·
   exact hr
  ·
   exact hr
  ·
   exact h.reg _ _ h0
 ·
  intro i b hb;rcases kinds i b hb with ⟨_,_,_,_,_,hne,_⟩|⟨_,_,_,_,_,hne,_⟩|⟨h0,_⟩
  ·
   exact hne
  ·
   exact hne
  ·
   exact h.ne _ _ h0
 ·
  intro i j b hi hj;have yFn:∀ i,N i=some b->b.v=y->(∃ c,N0 i=some c)/\V0 i=iteF y (ef V b.hi) (ef V b.lo):=by
   intro i hi hv;rcases kinds i b hi with ⟨_,hvx,_⟩|⟨⟨q,hq,_⟩,_,_,_,_,_,hV⟩|⟨h0,hnT⟩
   ·
    rw[hv] at hvx;exact absurd hvx.symm hxy
   ·
    exact⟨⟨q,hq⟩,hV⟩
   ·
    refine⟨⟨b,h0⟩,?_⟩;rw[(old i b b.lo h0 hnT (.inl rfl)).2.2,(old i b b.hi h0 hnT (.inr rfl)).2.2,<- hv];exact h.eqn _ _ h0
  have xT:b.v=x->∀ i,N i=some b->¬ Turns N0 x y i:=by
   intro hv i hi hT;obtain⟨_,b',hb',hb'y,_⟩:=m.dn i (hall i hT);rw[hi] at hb';cases hb'
   rw[hv] at hb'y;exact hxy hb'y
  by_cases hvx:b.v=x
  ·
   exact m.xu i j b hi hj hvx (xT hvx i hi) (xT hvx j hj)
  ·
   by_cases hvy:b.v=y
   ·
    obtain⟨⟨c,hc⟩,e1⟩:=yFn i hi hvy;obtain⟨⟨d,hd⟩,e2⟩:=yFn j hj hvy;have:2*i=2*j:=by
     refine h.canon (Zgb hc) (Zgb hd) ?_;funext ρ;have h1:2*i/2=i:=by omega
     have h2:2*j/2=j:=by omega
     have h3:2*i%2=0:=by omega
     have h4:2*j%2=0:=by omega
     simp only[ef,h1,h2,h3,h4,e1,e2]
    omega
   ·
    have o:∀ i,N i=some b->N0 i=some b:=by
     intro i hi;rcases kinds i b hi with ⟨_,hv,_⟩|⟨_,hv,_⟩|⟨h0,_⟩
     ·
      exact absurd hv hvx
     ·
      exact absurd hv hvy
     ·
      exact h0
    exact h.uniq i j b (o i hi) (o j hj)
 ·
  intro i b hb;rcases kinds i b hb with ⟨_,hv,hlo,hhi,_,_,hV⟩|⟨hT,hv,_,_,_,_,hV⟩|⟨h0,hnT⟩
  ·
   rw[hV,hv,(low _ hlo).2.2,(low _ hhi).2.2]
  ·
   obtain⟨q,hq,_⟩:=hT;rw[m.ext i (.inr ⟨q,hq⟩),hV,hv]
  ·
   rw[m.ext i (.inr ⟨b,h0⟩),(old i b b.lo h0 hnT (.inl rfl)).2.2,(old i b b.hi h0 hnT (.inr rfl)).2.2];exact h.eqn _ _ h0
end
end Go.Proofs.YtlgogjbkadckkaaGreat

namespace Go.Proofs.YtlgogjbkadckkaaGreat
open Go.RowKit Go.Shelf
structure TN where
 n:RN
 ll:Nat
 lh:Nat
 hl:Nat
 hh:Nat
def tnV (t:TN):List Value:=rnV t.n++[.int .i64 t.ll,.int .i64 t.lh,.int .i64 t.hl,.int .i64 t.hh]
def tnOf (d:Zac) (y:Nat) (i:Nat):TN:=⟨d.pool.nd i,(cofs d (d.pool.nd i).lo y).1,(cofs d (d.pool.nd i).lo y).2,(cofs d (d.pool.nd i).hi y).1,(cofs d (d.pool.nd i).hi y).2⟩
def Zep (d:Zac) (y:Nat) (i:Nat):Bool:=decide ((tnOf d y i).ll≠(tnOf d y i).lh\/(tnOf d y i).hl≠(tnOf d y i).hh)
theorem Zv5 {d:Zac} {V:Nat->BF} (hk:Zaj d V) (e y:Nat):(cofs d e y).1≠(cofs d e y).2↔isV (Zaa d) y e:=by
 unfold cofs isV;cases hb:Zaa d (e/2) with
 | none=>simp
 | some b =>
   by_cases h:b.v=y
   ·
    have h1:(b.v:Int)=(y:Int):=by omega
    simp only[h1,if_true];constructor
    ·
     intro _;exact⟨b,rfl,h⟩
    ·
     intro _;exact Zjk (hk.dag.ne _ _ hb)
   ·
    have h1:¬ (b.v:Int)=(y:Int):=by omega
    simp only[h1,if_false];constructor
    ·
     intro hh;exact(hh rfl).elim
    ·
     rintro⟨c,hc,hv⟩;cases hc;exact(h hv).elim
theorem Ziw {d:Zac} {V:Nat->BF} (hk:Zaj d V) {x y i:Nat} {b:BN} (hb:Zaa d i=some b) (hx:b.v=x):Zep d y i=true↔Turns (Zaa d) x y i:=by
 obtain⟨_,_,he⟩:=Zav hb;have hnd:bnOf (d.pool.nd i)=b:=by rw[<- (Zav hb).2.1];exact he
 have e1:(d.pool.nd i).lo=b.lo:=by rw[<- hnd];rfl
 have e2:(d.pool.nd i).hi=b.hi:=by rw[<- hnd];rfl
 unfold Zep tnOf;rw[decide_eq_true_eq,e1,e2,Zv5 hk,Zv5 hk];constructor
 ·
  intro h;exact⟨b,hb,hx,h⟩
 ·
  rintro⟨c,hc,_,h⟩;rw[hb] at hc;cases hc;exact h
open Go.RowKit
noncomputable def rkSw (n:Nat) (lev:Nat->Nat) (N0:Nat->Option BN) (x y:Nat) (N:Nat->Option BN) (i:Nat):Nat :=
 open Classical in if Turns N0 x y i then 2 * (n - lev x) else match N i with
  | none=>0
  | some b=>if b.v=x then 2*(n-lev x)-1 else 2*(n-lev b.v)
section
variable {n:Nat} {lev:Nat->Nat} {N0:Nat->Option BN} {V0:Nat->BF} {x y:Nat} {done:Nat->Prop} {N:Nat->Option BN} {V:Nat->BF}
theorem Zh4 {i:Nat} (h:Turns N0 x y i):rkSw n lev N0 x y N i=2*(n-lev x):=by unfold rkSw;rw[if_pos h]
theorem Zqb {i:Nat} {b:BN} (h:¬ Turns N0 x y i) (hb:N i=some b) (hx:b.v=x):rkSw n lev N0 x y N i=2*(n-lev x)-1:=by unfold rkSw;rw[if_neg h,hb];simp[hx]
theorem Ya1 {i:Nat} {b:BN} (h:¬ Turns N0 x y i) (hb:N i=some b) (hx:b.v≠x):rkSw n lev N0 x y N i=2*(n-lev b.v):=by unfold rkSw;rw[if_neg h,hb];simp[hx]
theorem Zr2 {i:Nat} {b:BN} (hb:N0 i=some b) (h:Turns N0 x y i):b.v=x:=by
 obtain⟨c,hc,hx,_⟩:=h;rw[hb] at hc;cases hc;exact hx
theorem Zx0 (m:Ze0 n lev N0 V0 x y done N V) {e:Nat} {c0 c:BN} (h0:N0 (e/2)=some c0) (hc:N (e/2)=some c) :
 (Turns N0 x y (e/2)/\c0.v=x/\rkSw n lev N0 x y N (e/2)=2*(n-lev x))\/(¬ Turns N0 x y (e/2)/\c=c0/\rkSw n lev N0 x y N (e/2)<=2*(n-lev c0.v)/\(c0.v=x->rkSw n lev N0 x y N (e/2)=2*(n-lev x)-1)):=by
 by_cases hT:Turns N0 x y (e/2)
 ·
  exact .inl ⟨hT,Zr2 h0 hT,Zh4 hT⟩
 ·
  have hk:=m.keep _ _ h0 (fun hd=>hT (m.dn _ hd).1);rw[hc] at hk;cases hk;refine .inr ⟨hT,rfl,?_,fun hx=>Zqb hT hc hx⟩
  by_cases hx:c0.v=x
  ·
   rw[Zqb hT hc hx,hx];omega
  ·
   rw[Ya1 hT hc hx];exact Nat.le_refl _
theorem Zim (m:Ze0 n lev N0 V0 x y done N V) {e:Nat} (h:okE N0 e):okE N e:=by
 rcases h with h|⟨c,hc⟩
 ·
  exact .inl h
 ·
  obtain⟨b,hb⟩:=m.has hc;exact .inr ⟨b,hb⟩
theorem Zss (m:Ze0 n lev N0 V0 x y done N V) {e:Nat} (h:midE n lev N0 N x y e):okE N e:=by
 rcases h with h|⟨c,hc,_⟩
 ·
  exact Zim m h.1
 ·
  exact .inr ⟨c,hc⟩
theorem Zpt {e:Nat} {c:BN} (h:N0 (e/2)=some c):lvE n lev N0 e=lev c.v:=by unfold lvE;rw[h]
theorem Ya2 (h:Dag n lev N0 V0) (hx:x<n) (hl:lev y=lev x+1) (m:Ze0 n lev N0 V0 x y done N V) {e:Nat} {c:BN} (he:lowE n lev N0 y e) (hc:N (e/2)=some c):rkSw n lev N0 x y N (e/2)+3<=2*(n-lev x):=by
 have hxl:=h.lt x hx;rcases he.1 with h0|⟨c0,hc0⟩
 ·
  rw[h0,m.n0] at hc;cases hc
 ·
  have h1:=he.2;rw[Zpt hc0] at h1;have h2:=h.lt _ (h.var _ _ hc0);rcases Zx0 m hc0 hc with ⟨_,hv,_⟩|⟨_,_,h3,_⟩
  ·
   rw[hv] at h1;omega
  ·
   omega
theorem Ya3 (h:Dag n lev N0 V0) (hx:x<n) (hl:lev y=lev x+1) (m:Ze0 n lev N0 V0 x y done N V) {e:Nat} {c:BN} (he:midE n lev N0 N x y e) (hc:N (e/2)=some c):rkSw n lev N0 x y N (e/2)+1<=2*(n-lev x):=by
 have hxl:=h.lt x hx;rcases he with he|⟨c',hc',hv,hT⟩
 ·
  have:=Ya2 h hx hl m he hc;omega
 ·
  rw[Zqb hT hc' hv];omega
theorem Ycd (h:Dag n lev N0 V0) (hx:x<n) (hl:lev y=lev x+1) (m:Ze0 n lev N0 V0 x y done N V):Acy N (rkSw n lev N0 x y N):=by
 have hxl:=h.lt x hx;have edge:∀ i b e,N i=some b->(e=b.lo\/e=b.hi)->okE N e/\∀ c,N (e/2)=some c->rkSw n lev N0 x y N (e/2)<rkSw n lev N0 x y N i:=by
  intro i b e hb he;cases h0:N0 i with
  | none =>
    obtain⟨hv,h1,h2,_⟩:=m.fresh i b hb h0;have hlow:lowE n lev N0 y e:=by rcases he with rfl|rfl;exact h1;exact h2
    have hT:¬ Turns N0 x y i:=fun⟨q,hq,_⟩=>by rw[h0] at hq;cases hq
    refine⟨Zim m hlow.1,fun c hc=>?_⟩;have:=Ya2 h hx hl m hlow hc;rw[Zqb hT hb hv];omega
  | some b0 =>
    by_cases hd:done i
    ·
     obtain⟨hT,b',hb',_,h1,h2,_⟩:=m.dn i hd;rw[hb] at hb';cases hb'
     have hm:midE n lev N0 N x y e:=by rcases he with rfl|rfl;exact h1;exact h2
     refine⟨Zss m hm,fun c hc=>?_⟩;have:=Ya3 h hx hl m hm hc;rw[Zh4 hT];omega
    ·
     have hk:=m.keep i b0 h0 hd;rw[hb] at hk;cases hk
     have ho:okE N0 e:=by rcases he with rfl|rfl;exact h.okLo _ _ h0;exact h.okHi _ _ h0
     have hlv:lev b.v<lvE n lev N0 e:=by rcases he with rfl|rfl;exact h.lvLo _ _ h0;exact h.lvHi _ _ h0
     refine⟨Zim m ho,fun c hc=>?_⟩;have hbn:=h.lt _ (h.var _ _ h0);rcases ho with hz|⟨c0,hc0⟩
     ·
      rw[hz,m.n0] at hc;cases hc
     ·
      rw[Zpt hc0] at hlv;have hcn:=h.lt _ (h.var _ _ hc0);have hi:(Turns N0 x y i/\rkSw n lev N0 x y N i=2*(n-lev x)/\b.v=x)\/(¬ Turns N0 x y i/\b.v=x/\rkSw n lev N0 x y N i=2*(n-lev x)-1)\/(¬ Turns N0 x y i/\b.v≠x/\rkSw n lev N0 x y N i=2*(n-lev b.v)):=by
       by_cases hT:Turns N0 x y i
       ·
        exact .inl ⟨hT,Zh4 hT,Zr2 h0 hT⟩
       ·
        by_cases hbx:b.v=x
        ·
         exact .inr (.inl ⟨hT,hbx,Zqb hT hb hbx⟩)
        ·
         exact .inr (.inr ⟨hT,hbx,Ya1 hT hb hbx⟩)
      rcases Zx0 m hc0 hc with ⟨_,hcv,hr⟩|⟨_,_,hr,hrx⟩
      ·
       rw[hr];rw[hcv] at hlv;rcases hi with ⟨_,_,hv⟩|⟨_,hv,_⟩|⟨_,_,h2⟩
       ·
        rw[hv] at hlv;omega
       ·
        rw[hv] at hlv;omega
       ·
        rw[h2];omega
      ·
       rcases hi with ⟨_,h2,hv⟩|⟨_,hv,h2⟩|⟨_,hv,h2⟩
       ·
        rw[h2];rw[hv] at hlv;omega
       ·
        rw[h2];rw[hv] at hlv;omega
       ·
        rw[h2];omega
 exact⟨m.n0,fun i b hb=>(edge i b _ hb (.inl rfl)).1,fun i b hb=>(edge i b _ hb (.inr rfl)).1,fun i b c hb hc=>(edge i b _ hb (.inl rfl)).2 c hc,fun i b c hb hc=>(edge i b _ hb (.inr rfl)).2 c hc⟩
end
open Go.RowKit
theorem Zt9 {α:Type} [DecidableEq α] {l:List α} (hn:l.Nodup) {κ:α} (hk:κ∈l) {p q:α->Bool} (hp:p κ=false) (hq:∀ a,q a=(p a||decide (a=κ))):(l.filter q).length=(l.filter p).length+1:=by
 induction l with
 | nil=>cases hk
 | cons a l ih =>
   rw[List.nodup_cons] at hn;have hqa:=hq a
   by_cases e:a=κ
   ·
    subst e;have hno:∀ b∈l,b≠a:=fun b hb e=>hn.1 (e ▸ hb)
    have hl:l.filter q=l.filter p:=List.filter_congr fun b hb=>by rw[hq b];simp[hno b hb]
    simp only[List.filter_cons,hqa,hp,hl];simp
   ·
    have hk':κ∈l:=by
     rcases List.mem_cons.1 hk with h|h
     ·
      exact(e h.symm).elim
     ·
      exact h
    have:=ih hn.2 hk';have hqa':q a=p a:=by rw[hqa];simp[e]
    simp only[List.filter_cons,hqa'];split
    ·
     simp[this]
    ·
     exact this
structure Zbj (d0:Zac) (V0:Nat->BF) (k x y:Nat) (Wt:List (Nat×Nat)) (E:Nat->Int) (done:Nat->Prop) (d:Zac) (V:Nat->BF):Prop where
 mid:Ze0 d0.vars.length (levN d0) (Zaa d0) V0 x y done (Zaa d) V
 vars:d.vars=(Zex d0 k).vars
 level:d.level=(Zex d0 k).level
 room:d.pool.room=d0.pool.room
 ext:Zat d=Zat d0
 live:Zby d E
 tabO:∀ v,v<d0.vars.length->v≠x->∀ lo hi id,d.tab v (lo,hi)=some id↔Zaa d id=some ⟨v,lo,hi⟩
 tabX:∀ lo hi id,d.tab x (lo,hi)=some id↔Zaa d id=some ⟨x,lo,hi⟩/\¬ Turns (Zaa d0) x y id
 clen:d.counts.length<=1048578
 pos:∀ i,Turns (Zaa d0) x y i->0<Zas d i
 many:d.pool.many=d0.pool.many+(Wt.filter fun κ=>(d.tab x κ).isSome).length
section
variable {d0 d d':Zac} {V0 V:Nat->BF} {k x y:Nat} {Wt:List (Nat×Nat)} {E:Nat->Int} {done:Nat->Prop}
theorem Zbj.has0 (m:Zbj d0 V0 k x y Wt E done d V) {i:Nat} (h:Zaa d i=none):Zaa d0 i=none:=by
 cases e:Zaa d0 i with
 | none=>rfl
 | some c=>obtain⟨b',hb'⟩:=m.mid.has e;rw[h] at hb';cases hb'
theorem Zbj.add {id lo hi:Nat} (m:Zbj d0 V0 k x y Wt (Zat d0) done d V) (r:Zjv d d' id x lo hi) (hlo:lowE d0.vars.length (levN d0) (Zaa d0) y lo) (hhi:lowE d0.vars.length (levN d0) (Zaa d0) y hi) (hr:hi%2=0) (hne:lo≠hi)
 (ht:d.tab x (lo,hi)=none) (hW:(lo,hi)∈Wt) (hWn:Wt.Nodup):Zbj d0 V0 k x y Wt (Zat d0) done d' (addV V id ⟨x,lo,hi⟩):=by
 have hid:id≠0:=by have:=r.pos;omega
 have hnew:∀ i,¬ Turns (Zaa d0) x y i->Zaa d i≠some ⟨x,lo,hi⟩:=fun i hT e=>by rw[(m.tabX lo hi i).2 ⟨e,hT⟩] at ht;cases ht
 have hmid:=m.mid.add r.none hid rfl hlo hhi hr hne hnew;have h0:=m.has0 r.none;have hTid:¬ Turns (Zaa d0) x y id:=fun⟨q,hq,_⟩=>by rw[h0] at hq;cases hq
 have hext:Zat d'=Zat d0:=by
  rw[r.ext];funext i
  by_cases e:i=id
  ·
   subst e;simp[Zd5 h0]
  ·
   simp only[if_neg e,m.ext]
 have hlive:=r.live;rw[hext] at hlive;refine⟨by rw[r.nodes];exact hmid,r.vars.trans m.vars,r.level.trans m.level,r.room.trans m.room,hext,hlive,fun v hv hvx lo' hi' i=>?_,fun lo' hi' i=>?_,r.clen,fun i hT=>?_,?_⟩
 ·
  rw[r.tab,r.nodes];dsimp only;rw[if_neg hvx,m.tabO v hv hvx]
  by_cases e4:i=id
  ·
   subst e4;rw[Zbk,r.none];constructor
   ·
    intro e5;cases e5
   ·
    intro e5;cases e5;exact absurd rfl hvx
  ·
   rw[Zaw _ e4]
 ·
  rw[r.tab,r.nodes];dsimp only;rw[if_pos rfl];unfold putF
  by_cases e2:(lo',hi')=(lo,hi)
  ·
   cases e2;rw[if_pos rfl];constructor
   ·
    intro e3;cases e3;rw[Zbk];exact⟨rfl,hTid⟩
   ·
    rintro⟨e3,e5⟩
    by_cases e4:i=id
    ·
     rw[e4]
    ·
     rw[Zaw _ e4] at e3;exact absurd e3 (hnew i e5)
  ·
   rw[if_neg e2,m.tabX]
   by_cases e4:i=id
   ·
    subst e4;rw[Zbk,r.none];constructor
    ·
     rintro⟨e5,_⟩;cases e5
    ·
     rintro⟨e5,_⟩;cases e5;exact absurd rfl e2
   ·
    rw[Zaw _ e4]
 ·
  rw[r.cnt];unfold setC;rw[if_neg (fun e=>hTid (by rw[<- e];exact hT))];exact m.pos i hT
 ·
  rw[r.many,m.many];have e1:(Wt.filter fun κ=>(d'.tab x κ).isSome).length=(Wt.filter fun κ=>(d.tab x κ).isSome).length+1:=by
   refine Zt9 hWn hW (by rw[ht];rfl) fun κ=>?_
   rw[r.tab];dsimp only;rw[if_pos rfl];unfold putF
   by_cases e:κ=(lo,hi)
   ·
    simp[e]
   ·
    simp[e]
  rw[e1];omega
theorem Zbj.counts {E':Nat->Int} {cs:List Nat} {dd mm:Nat} (m:Zbj d0 V0 k x y Wt E done d V) (hl:Zby (d.cd cs dd) E') (hlen:cs.length=d.counts.length) (hsame:∀ i,mm<=rkSw d0.vars.length (levN d0) (Zaa d0) x y (Zaa d) i->cs.getD i 0=d.counts.getD i 0) (hm:mm<=2*(d0.vars.length-levN d0 x)) :
 Zbj d0 V0 k x y Wt E' done (d.cd cs dd) V :=
 ⟨m.mid,m.vars,m.level,m.room,m.ext,hl,m.tabO,m.tabX,by show cs.length<=_;rw[hlen];exact m.clen,fun i hT=>by
  have:=hsame i (by rw[Zh4 hT];exact hm)
  show 0<cs.getD i 0
  rw[this];exact m.pos i hT,m.many⟩
theorem Zbj.fresh_y (m:Zbj d0 V0 k x y Wt E done d V) (hk:Dag d0.vars.length (levN d0) (Zaa d0) V0) (hxy:x≠y) (hy:y<d0.vars.length) {i lo hi:Nat} (hT:Turns (Zaa d0) x y i) (hd:¬ done i) (hV:V0 i=iteF y (ef V hi) (ef V lo)):d.tab y (lo,hi)=none:=by
 cases e:d.tab y (lo,hi) with
 | none=>rfl
 | some j =>
   exfalso;have hj:=(m.tabO y hy (Ne.symm hxy) lo hi j).1 e;obtain⟨b,hb,hbx,hby⟩:=hT;have same:∀ j',(∃ c,Zaa d0 j'=some c)->V0 j'=V0 i->j'=i:=by
    rintro j' ⟨c,hc⟩ hV';have:=hk.canon (Zgb hc) (Zgb hb) (by funext ρ;simp only[ef];rw[show 2*j'/2=j' by omega,show 2*i/2=i by omega,hV',show 2*j'%2=0 by omega,show 2*i%2=0 by omega]);omega
   by_cases hdj:done j
   ·
    obtain⟨⟨q,hq,hqx,_⟩,c,hc,_,_,_,_,_,hVj⟩:=m.mid.dn j hdj;rw[hj] at hc;cases hc;have:=same j ⟨q,hq⟩ (hVj.trans hV.symm);rw[this] at hdj;exact hd hdj
   ·
    cases h0:Zaa d0 j with
    | none =>
      have:=(m.mid.fresh j _ hj h0).1;exact hxy this.symm
    | some c =>
      have hk2:=m.mid.keep j c h0 hdj;rw[hj] at hk2;cases hk2;have hVj:V0 j=iteF y (ef V0 hi) (ef V0 lo):=hk.eqn _ _ h0;have e1:=Zfy m.mid.ext (hk.okLo _ _ h0);have e2:=Zfy m.mid.ext (hk.okHi _ _ h0);dsimp only at e1 e2;rw[<- e1,<- e2] at hVj;have:=same j ⟨_,h0⟩ (hVj.trans hV.symm);subst this;rw[hb] at h0;cases h0;exact hxy hbx.symm
end
open Go.RowKit
theorem Zse {V:Nat->BF} {id v lo hi:Nat} (h:V id=iteF v (ef V (eflip hi (eneg hi))) (ef V (eflip lo (eneg hi)))):ef V (eflip (2*id) (eneg hi))=iteF v (ef V hi) (ef V lo):=by
 funext ρ;rw[Zcy];have e0:ef V (2*id) ρ=V id ρ:=by unfold ef;rw[show 2*id/2=id by omega,show 2*id%2=0 by omega];simp
 rw[e0,h];unfold iteF;split<;>rw[Zcy]<;>cases eneg hi<;>simp
section
variable {d0 d d':Zac} {V0 V:Nat->BF} {k x y:Nat} {Wt:List (Nat×Nat)} {E:Nat->Int} {done:Nat->Prop}
theorem Zbj.valX (m:Zbj d0 V0 k x y Wt E done d V) (hk:Dag d0.vars.length (levN d0) (Zaa d0) V0) {id a b:Nat} (hb:Zaa d id=some ⟨x,a,b⟩) (hT:¬ Turns (Zaa d0) x y id) (ha:lowE d0.vars.length (levN d0) (Zaa d0) y a) (hbb:lowE d0.vars.length (levN d0) (Zaa d0) y b):V id=iteF x (ef V b) (ef V a):=by
 have e1:=Zfy m.mid.ext ha.1;have e2:=Zfy m.mid.ext hbb.1;rw[e1,e2];cases h0:Zaa d0 id with
 | none=>exact(m.mid.fresh id _ hb h0).2.2.2.2.2
 | some c =>
   have hk2:=m.mid.keep id c h0 (fun hd=>hT (m.mid.dn _ hd).1);rw[hb] at hk2;cases hk2;rw[m.mid.ext id (.inr ⟨_,h0⟩)];exact hk.eqn _ _ h0
theorem Zc4 {n:Nat} {lev:Nat->Nat} {N:Nat->Option BN} {y e:Nat} {b:Bool} (h:lowE n lev N y e):lowE n lev N y (eflip e b):=⟨Zdx h.1,by rw[Zdw];exact h.2⟩
def bkey (lo hi:Nat):Nat×Nat:=(eflip lo (eneg hi),eflip hi (eneg hi))
structure Zfp (d0:Zac) (V0:Nat->BF) (k x y:Nat) (Wt:List (Nat×Nat)) (done:Nat->Prop) (d:Zac) (V:Nat->BF) (lo hi:Nat) (r:Nat) (d':Zac) (V':Nat->BF):Prop where
 mid:Zbj d0 V0 k x y Wt (Zat d0) done d' V'
 edge:midE d0.vars.length (levN d0) (Zaa d0) (Zaa d') x y r
 val:ef V' r=iteF x (ef V0 hi) (ef V0 lo)
 reg:hi%2=0->r%2=0
 keep:∀ e,midE d0.vars.length (levN d0) (Zaa d0) (Zaa d) x y e->midE d0.vars.length (levN d0) (Zaa d0) (Zaa d') x y e/\ef V' e=ef V e
theorem Zo5 (id:Nat) (hi:Nat) (h:hi%2=0):eflip (2*id) (eneg hi)%2=0:=by
 unfold eneg eflip;have:(hi%2 == 1)=false:=by rw[h];rfl
 rw[this];simp
theorem Ztu (m:Zbj d0 V0 k x y Wt (Zat d0) done d V) {lo:Nat} (hlo:lowE d0.vars.length (levN d0) (Zaa d0) y lo):Zfp d0 V0 k x y Wt done d V lo lo lo d V :=
 ⟨m,.inl hlo,by rw[Zfy m.mid.ext hlo.1];funext ρ;unfold iteF;split<;>rfl,fun h=>h,fun e he=>⟨he,rfl⟩⟩
theorem Zq1 (m:Zbj d0 V0 k x y Wt (Zat d0) done d V) (hk:Dag d0.vars.length (levN d0) (Zaa d0) V0) {lo hi id:Nat} (hlo:lowE d0.vars.length (levN d0) (Zaa d0) y lo) (hhi:lowE d0.vars.length (levN d0) (Zaa d0) y hi) (ht:d.tab x (bkey lo hi)=some id) :
 Zfp d0 V0 k x y Wt done d V lo hi (eflip (2*id) (eneg hi)) d V:=by
 obtain⟨hb,hT⟩:=(m.tabX _ _ id).1 ht;refine⟨m,.inr ⟨_,by rw[Zcm,show 2*id/2=id by omega];exact hb,rfl,by rw[Zcm,show 2*id/2=id by omega];exact hT⟩,?_,Zo5 id hi,fun e he=>⟨he,rfl⟩⟩;rw[Zse (m.valX hk hb hT (Zc4 hlo) (Zc4 hhi)),Zfy m.mid.ext hlo.1,Zfy m.mid.ext hhi.1]
theorem Zvr (m:Zbj d0 V0 k x y Wt (Zat d0) done d V) (hk:Dag d0.vars.length (levN d0) (Zaa d0) V0) {lo hi id:Nat} (hlo:lowE d0.vars.length (levN d0) (Zaa d0) y lo) (hhi:lowE d0.vars.length (levN d0) (Zaa d0) y hi) (hne:lo≠hi)
 (ht:d.tab x (bkey lo hi)=none) (r:Zjv d d' id x (bkey lo hi).1 (bkey lo hi).2) (hW:bkey lo hi∈Wt) (hWn:Wt.Nodup) :
 Zfp d0 V0 k x y Wt done d V lo hi (eflip (2*id) (eneg hi)) d' (addV V id ⟨x,(bkey lo hi).1,(bkey lo hi).2⟩):=by
 have hid:id≠0:=by have:=r.pos;omega
 have m':=m.add r (Zc4 hlo) (Zc4 hhi) (Zl3 hi) (Zjk hne) ht hW hWn;have hT:¬ Turns (Zaa d0) x y id:=fun⟨q,hq,_⟩=>by rw[m.has0 r.none] at hq;cases hq
 have hb:Zaa d' id=some ⟨x,(bkey lo hi).1,(bkey lo hi).2⟩:=by rw[r.nodes,Zbk]
 refine⟨m',.inr ⟨_,by rw[Zcm,show 2*id/2=id by omega];exact hb,rfl,by rw[Zcm,show 2*id/2=id by omega];exact hT⟩,?_,Zo5 id hi,fun e he=>?_⟩
 ·
  rw[Zse (m'.valX hk hb hT (Zc4 hlo) (Zc4 hhi)),Zfy m'.mid.ext hlo.1,Zfy m'.mid.ext hhi.1]
 ·
  rcases he with he|⟨c,hc,hcx,hcT⟩
  ·
   exact⟨.inl he,by rw[Zfy m'.mid.ext he.1,Zfy m.mid.ext he.1]⟩
  ·
   have hne':e/2≠id:=by rintro e';rw[e',r.none] at hc;cases hc
   refine⟨.inr ⟨c,by rw[r.nodes,Zaw _ hne'];exact hc,hcx,hcT⟩,?_⟩;funext ρ;simp only[ef,addV,if_neg hne']
theorem Zbj.fits (m:Zbj d0 V0 k x y Wt E done d V) {κ:Nat×Nat} (hW:κ∈Wt) (ht:d.tab x κ=none) (hroom:d0.pool.many+Wt.length<=d0.pool.room):d.pool.many<d.pool.room:=by
 have h1:(Wt.filter fun κ=>(d.tab x κ).isSome).length<Wt.length:=by
  rw[<- Nat.not_le];intro hle;have h2:=List.length_filter_le (fun κ=>(d.tab x κ).isSome) Wt;have h3:=List.length_filter_eq_length_iff.1 (Nat.le_antisymm h2 hle);have:=h3 κ hW;rw[ht] at this;cases this
 rw[m.many,m.room];omega
end
theorem Zor {d0:Zac} {V0:Nat->BF} {k x y:Nat} {Wt:List (Nat×Nat)} {done:Nat->Prop} {d:Zac} {V:Nat->BF} {o:Own} {w:World} {sb:Nat} (h:Zaq o w sb d) (hlt:Zai o w) (m:Zbj d0 V0 k x y Wt (Zat d0) done d V)
 (hk:Dag d0.vars.length (levN d0) (Zaa d0) V0) (hacy:Acy (Zaa d) (rkSw d0.vars.length (levN d0) (Zaa d0) x y (Zaa d))) (hx:x<d0.vars.length) (hvl:d.vars.length=d0.vars.length) (lo hi:Nat) (hlo:lowE d0.vars.length (levN d0) (Zaa d0) y lo) (hhi:lowE d0.vars.length (levN d0) (Zaa d0) y hi)
 (hkey:lo≠hi->d.tab x (bkey lo hi)=none->bkey lo hi∈Wt) (hWn:Wt.Nodup) (hroom:d0.pool.many+Wt.length<=d0.pool.room) :
 Calls Tryz.prog 157 #[.pointer (some ⟨sb,0,none⟩),.int .i64 x,.int .i64 lo,.int .i64 hi] w fun e w'=>∃ r:Nat,e=.returned (.int .i64 r)/\∃ o' d' V',Zaq o' w' sb d'/\Zai o' w'/\Zfp d0 V0 k x y Wt done d V lo hi r d' V'/\d'.vars.length=d0.vars.length/\Chg Zam o o' w w':=by
 obtain⟨s,h⟩:=h;have okL:=Zim m.mid hlo.1;have okH:=Zim m.mid hhi.1;have hlol:=h.edge_lt okL;have hhil:=h.edge_lt okH;have hlom:lo<eMax:=by unfold eMax;omega
 have hhim:hi<eMax:=by unfold eMax;omega
 by_cases hne:lo=hi
 ·
  subst hne;have HF:Hid (∃ r:Nat,Ending.returned (.int .i64 (lo:Nat))=.returned (.int .i64 r)/\∃ o' d' V',Zaq o' w sb d'/\Zai o' w/\Zfp d0 V0 k x y Wt done d V lo lo r d' V'/\d'.vars.length=d0.vars.length/\Chg Zam o o' w w):=Hd ⟨lo,rfl,o,d,V,⟨s,h⟩,hlt,Ztu m hlo,hvl,Chg.refl _ _ _⟩;clear h hlt m hk hacy hlo hhi hkey hlom hhim hlol hhil okL okH
  go_enter Tryz.func157,Tryz.ntmps157
  go_wp2_with fail;go_ret;exact HF.out
 have hnei:((lo:Int) == hi)=false:=by simp;omega
 have hv:x<d.vars.length:=by rw[hvl];exact hx
 have HNORM:=Hd (fun W=>Znn lo hi W hlom hhim);have HTAB:=Hd (h.tab x (by rw[h.tlen];exact hv));obtain⟨gt,ct,hvt,hct,hvtl,hts⟩:=h.tabAt hv;obtain⟨c0,c1,c2,c3,c4,f0⟩:=cells5 h.blk;rw[hvt] at c2;obtain⟨t,ht⟩:∃ t,t=s.ts.getD x 0:=⟨_,rfl⟩;rw[<- ht] at hct HTAB;have hxi:(x:Int)<s.ts.length:=by omega
 obtain⟨lo2,hlo2⟩:∃ q,q=eflip lo (eneg hi):=⟨_,rfl⟩;obtain⟨hi2,hhi2⟩:∃ q,q=eflip hi (eneg hi):=⟨_,rfl⟩;obtain⟨ng,hng⟩:∃ q,q=eneg hi:=⟨_,rfl⟩;have hkk:bkey lo hi=(lo2,hi2):=by unfold bkey;rw[hlo2,hhi2]
 rw[<- hlo2,<- hhi2] at HNORM;cases htab:d.tab x (lo2,hi2) with
 | some id =>
   have HFI:=Hd (fun W (hb:Below w.heap.size w W)=>Zna o x t (d.tab x) lo2 hi2 id W (HTAB.out.below hb hlt) htab);have hnode:=((m.tabX _ _ id).1 htab).1;have hidl:=(h.tk_lt hnode).2;have HOF:=Hd (fun W=>Zxn id (eneg hi) W (by omega));have HF:Hid (∀ W,Below w.heap.size w W->∃ r:Nat,Ending.returned (.int .i64 (eflip (2*id) (eneg hi):Nat))=.returned (.int .i64 r)/\∃ o' d' V',Zaq o' W sb d'/\Zai o' W/\Zfp d0 V0 k x y Wt done d V lo hi r d' V'/\d'.vars.length=d0.vars.length/\Chg Zam o o' w W) :=
    Hd fun W hb=>⟨_,rfl,o,d,V,⟨s,h.below hlt hb⟩,hlt.mono hb.size,Zq1 m hk hlo hhi (by rw[hkk];exact htab),hvl,Chg.of_below hb _ _⟩
   rw[<- hng] at HNORM HOF HF;clear h hlt m hk hacy hlo hhi hkey hlom hhim hlol hhil okL okH htab hnode hidl hlo2 hhi2 hng hkk hv hne hvl ht hvt
   go_enter Tryz.func157,Tryz.ntmps157
   go_wp2_with fail;refine(HNORM.out _).mono ?_;rintro e w' ⟨rfl,rfl⟩;go_wp2_with fail;refine(HFI.out _ (Below.refl _ _)).mono ?_;rintro e w' ⟨rfl,rfl⟩;go_wp2_with fail;refine(HOF.out _).mono ?_;rintro e w' ⟨rfl,rfl⟩;go_wp2_with fail;go_ret;exact HF.out _ (Below.refl _ _)
 | none =>
   have HFI:=Hd (Zre o x t (d.tab x) lo2 hi2 w HTAB.out htab);have hW:bkey lo hi∈Wt:=hkey hne (by rw[hkk];exact htab);have HADD:=Hd (Zjc h hlt (by rw[m.ext];exact m.live) (fun i b hb=>⟨hacy.okLo i b hb,hacy.okHi i b hb⟩) x lo2 hi2 hv htab m.clen);have HFULL:Hid (d.pool.many≠d.pool.room):=Hd fun e=>by have:=m.fits hW (by rw[hkk];exact htab) hroom;omega
   have HF:Hid (∀ id d' o' W,Zaq o' W sb d'->Zai o' W->Zjv d d' id x lo2 hi2->Chg Zam o o' w W->∃ r:Nat,Ending.returned (.int .i64 (eflip (2*id) (eneg hi):Nat))=.returned (.int .i64 r)/\∃ o' d' V',Zaq o' W sb d'/\Zai o' W/\Zfp d0 V0 k x y Wt done d V lo hi r d' V'/\d'.vars.length=d0.vars.length/\Chg Zam o o' w W):=by
    refine Hd fun id d' o' W h1 h2 h3 h4=>⟨_,rfl,o',d',_,h1,h2,Zvr m hk hlo hhi hne (by rw[hkk];exact htab) (by rw[hkk];exact h3) hW hWn,by rw[h3.vars];exact hvl,h4⟩
   rw[<- hng] at HNORM HF;clear h hlt m hk hacy hlo hhi hkey hlom hhim hlol hhil okL okH htab hlo2 hhi2 hkk hv hne hvl ht hvt hW hng
   go_enter Tryz.func157,Tryz.ntmps157
   go_wp2_with fail;refine(HNORM.out _).mono ?_;rintro e w' ⟨rfl,rfl⟩;go_wp2_with fail;refine HFI.out.mono ?_;rintro e w' ⟨rfl,rfl⟩;go_wp2_with fail;refine HADD.out.mono ?_;rintro e w6 (⟨hm,rfl,hb6⟩|⟨id,d',o',rfl,hs,hl6,hr,hc⟩)
   ·
    exact(HFULL.out hm).elim
   ·
    have hidl:id<1048578:=by
     obtain⟨s',hs'⟩:=hs;have hn:Zaa d' id=some ⟨x,lo2,hi2⟩:=by rw[hr.nodes,Zbk]
     have:=hs'.tk_lt hn;omega
    have HOF:=Hd (Zxn id ng w6 (by omega));have HFF:=Hd (HF.out id d' o' w6 hs hl6 hr hc);clear hs hl6 hr hc c0 c1 c2 c3 c4 f0 hct;go_wp2_with fail;refine HOF.out.mono ?_;rintro e w' ⟨rfl,rfl⟩;go_wp2_with fail;go_ret;exact HFF.out
open Go.RowKit
section
variable {d0 d:Zac} {V0 V:Nat->BF} {k x y:Nat} {Wt:List (Nat×Nat)} {E:Nat->Int} {done:Nat->Prop}
structure Ybh (d0:Zac) (V0:Nat->BF) (x y i ll lh hl hh:Nat):Prop where
 f1:lowE d0.vars.length (levN d0) (Zaa d0) y ll
 f2:lowE d0.vars.length (levN d0) (Zaa d0) y lh
 f3:lowE d0.vars.length (levN d0) (Zaa d0) y hl
 f4:lowE d0.vars.length (levN d0) (Zaa d0) y hh
 val:∀ ρ,V0 i ρ=if ρ x then (if ρ y then ef V0 hh ρ else ef V0 hl ρ) else (if ρ y then ef V0 lh ρ else ef V0 ll ρ)
 reg:hh%2=0
theorem Zyq (hk:Zaj d0 V0) (hy:y<d0.vars.length) (hl:levN d0 y=levN d0 x+1) {i:Nat} {b:BN} (hb:Zaa d0 i=some b) (hbx:b.v=x) :
 Ybh d0 V0 x y i (cofs d0 b.lo y).1 (cofs d0 b.lo y).2 (cofs d0 b.hi y).1 (cofs d0 b.hi y).2:=by
 have l1:=hk.dag.lvLo _ _ hb;have l2:=hk.dag.lvHi _ _ hb;rw[hbx] at l1 l2;obtain⟨a1,a2,a3,a4,a5⟩:=Zbv hk (hk.dag.okLo _ _ hb) hy (by omega);obtain⟨c1,c2,c3,c4,c5⟩:=Zbv hk (hk.dag.okHi _ _ hb) hy (by omega);refine⟨⟨a1,a3⟩,⟨a2,a4⟩,⟨c1,c3⟩,⟨c2,c4⟩,fun ρ=>?_,?_⟩
 ·
  rw[hk.dag.eqn _ _ hb,hbx];unfold iteF;rw[a5 ρ,c5 ρ]
 ·
  have hr:=hk.dag.reg _ _ hb;unfold cofs;cases hc:Zaa d0 (b.hi/2) with
  | none=>exact hr
  | some c =>
    dsimp only;split
    ·
     have:eneg b.hi=false:=by unfold eneg;rw[hr];rfl
     dsimp only;rw[this];exact hk.dag.reg _ _ hc
    ·
     exact hr
theorem Zu6 (hk:Zaj d0 V0) (hx:x<d0.vars.length) (hy:y<d0.vars.length) (hxy:x≠y) (hl:levN d0 y=levN d0 x+1) {i ll lh hl' hh lo hi:Nat} (t:Ybh d0 V0 x y i ll lh hl' hh) (hne:ll≠lh\/hl'≠hh)
 (h1:ef V lo=iteF x (ef V0 hl') (ef V0 ll)) (h2:ef V hi=iteF x (ef V0 hh) (ef V0 lh)):V0 i=iteF y (ef V hi) (ef V lo)/\lo≠hi:=by
 constructor
 ·
  funext ρ;rw[t.val ρ,h1,h2];unfold iteF;cases ρ x<;>cases ρ y<;>rfl
 ·
  rintro rfl;rw[h1] at h2;have ind:∀ {e:Nat},lowE d0.vars.length (levN d0) (Zaa d0) y e->∀ (ρ:Nat->Bool) (b:Bool),ef V0 e (upd ρ x b)=ef V0 e ρ:=fun he ρ b=>hk.dag.indep_var he.1 (by have:=he.2;omega) ρ b
  have e1:ef V0 hl'=ef V0 hh:=by
   funext ρ;have:=congrFun h2 (upd ρ x true);unfold iteF at this;rw[Zfn,ind t.f3,ind t.f4] at this;simpa using this
  have e2:ef V0 ll=ef V0 lh:=by
   funext ρ;have:=congrFun h2 (upd ρ x false);unfold iteF at this;rw[Zfn,ind t.f1,ind t.f2] at this;simpa using this
  rcases hne with h|h
  ·
   exact h (hk.dag.canon t.f1.1 t.f2.1 e2)
  ·
   exact h (hk.dag.canon t.f3.1 t.f4.1 e1)
theorem Zwa {kk:Nat} {N:Nat->Option BN} {c:Nat->Nat} {i:Nat} {b b':BN} (hb:N i=some b):Zd2 kk (setN N i b') c=Zd2 kk N c:=by
 unfold Zd2;refine Zax _ fun j _=>?_
 unfold dead1 setN
 by_cases e:j=i
 ·
  subst e;rw[if_pos rfl,hb]
 ·
  rw[if_neg e]
theorem Zbj.set {i lo hi:Nat} {b:BN} {p':Zak} (m:Zbj d0 V0 k x y Wt E done d V) (hxy:x≠y) (hk:Dag d0.vars.length (levN d0) (Zaa d0) V0) (hy:y<d0.vars.length) (hT:Turns (Zaa d0) x y i) (hd:¬ done i) (hb:Zaa d0 i=some b)
 (hlo:midE d0.vars.length (levN d0) (Zaa d0) (Zaa d) x y lo) (hhi:midE d0.vars.length (levN d0) (Zaa d0) (Zaa d) x y hi) (hr:hi%2=0) (hne:lo≠hi) (hV:V0 i=iteF y (ef V hi) (ef V lo))
 (hn:Zaa { d with pool:=p' }=setN (Zaa d) i ⟨y,lo,hi⟩) (he:Zat { d with pool:=p' }=Zat d) (h1:p'.room=d.pool.room) (h2:p'.many=d.pool.many) (h3:p'.at_.length=d.pool.at_.length) :
 Zbj d0 V0 k x y Wt (addE (addE (addE (addE E b.lo 1) b.hi 1) lo (-1)) hi (-1)) (fun j=>done j\/j=i) { d with pool:=p',tab:=fun u=>if u=y then putF (d.tab u) (lo,hi) (some i) else d.tab u } V:=by
 have hfr:=m.fresh_y hk hxy hy hT hd hV;have hbd:Zaa d i=some b:=m.mid.keep i b hb hd;have hbx:b.v=x:=Zr2 hb hT;have hnn:Zaa { d with pool:=p',tab:=fun u=>if u=y then putF (d.tab u) (lo,hi) (some i) else d.tab u }=setN (Zaa d) i ⟨y,lo,hi⟩:=hn;refine⟨by rw[hnn];exact m.mid.turn hxy hT hlo hhi hr hne hV,m.vars,m.level,h1.trans m.room,he.trans m.ext,⟨?_,?_,fun j c hc=>?_⟩,fun v hv hvx lo' hi' j=>?_,fun lo' hi' j=>?_,m.clen,m.pos,?_⟩
 ·
  show Cnt p'.at_.length _ (Zas d) _
  rw[hnn,h3];exact m.live.cnt.setLive hbd (m.pos i hT)
 ·
  show (d.dead:Int)=Zd2 p'.at_.length _ (Zas d)
  rw[hnn,h3,Zwa hbd];exact m.live.dead
 ·
  rw[hnn] at hc
  show j<d.counts.length
  unfold setN at hc;split at hc
  ·
   rename_i e;rw[e];exact m.live.has i b hbd
  ·
   exact m.live.has j c hc
 ·
  rw[hnn];dsimp only
  by_cases e:v=y
  ·
   subst e;rw[if_pos rfl];unfold putF
   by_cases e2:(lo',hi')=(lo,hi)
   ·
    cases e2;rw[if_pos rfl];constructor
    ·
     intro e3;cases e3;simp[setN]
    ·
     intro e3;unfold setN at e3;split at e3
     ·
      rename_i e4;rw[e4]
     ·
      have:=(m.tabO v hv hvx _ _ j).2 e3;rw[hfr] at this;cases this
   ·
    rw[if_neg e2,m.tabO v hv hvx];unfold setN
    by_cases e4:j=i
    ·
     subst e4;rw[if_pos rfl,hbd];constructor
     ·
      intro e5;cases e5;exact absurd hbx (Ne.symm hxy)
     ·
      intro e5;cases e5;exact absurd rfl e2
    ·
     rw[if_neg e4]
  ·
   rw[if_neg e,m.tabO v hv hvx];unfold setN
   by_cases e4:j=i
   ·
    subst e4;rw[if_pos rfl,hbd];constructor
    ·
     intro e5;cases e5;exact absurd hbx hvx
    ·
     intro e5;cases e5;exact absurd rfl e
   ·
    rw[if_neg e4]
 ·
  rw[hnn];dsimp only;rw[if_neg hxy,m.tabX];unfold setN
  by_cases e4:j=i
  ·
   subst e4;rw[if_pos rfl];constructor
   ·
    rintro⟨_,h⟩;exact(h hT).elim
   ·
    rintro⟨_,h⟩;exact(h hT).elim
  ·
   rw[if_neg e4]
 ·
  show p'.many=_
  rw[h2,m.many];dsimp only;rw[if_neg hxy]
end
open Go.RowKit
structure TRow (w:World) (base:Nat) (v:Value) (ts:List TN):Prop where
 small:ts.length<=1048578
 ex:∃ a c,v=.slice a ts.length c/\∀ k,∀ hk:k<ts.length,∃ g,a=some ⟨g,0,none⟩/\base<=g/\∀ j u,(tnV ts[k])[j]?=some u->w.cell? ⟨g,k*9+j,none⟩=some u
theorem TRow.keep {w w':World} {base:Nat} {v:Value} {ts:List TN} (h:TRow w base v ts) (hk:∀ g,base<=g->g<w.heap.size->v.ownBlock=some g->w'.heap[g]?=w.heap[g]?):TRow w' base v ts:=by
 obtain⟨a,c,rfl,h1⟩:=h.ex;refine⟨h.small,a,c,rfl,fun k hlt=>?_⟩;obtain⟨g,rfl,hb,hc⟩:=h1 k hlt;refine⟨g,rfl,hb,fun j u hu=>?_⟩;have:=hc j u hu;exact(World.cell?_of_block (w:=w) (a:=⟨g,k*9+j,none⟩) (hk g hb (Zab this) rfl)).trans this
theorem TRow.below {w w':World} {base:Nat} {v:Value} {ts:List TN} (h:TRow w base v ts) (hb:Below w.heap.size w w'):TRow w' base v ts:=h.keep fun g _ hg _=>hb.block g hg
def Zb4 (t:TN):List (Nat×Nat):=[(t.ll,t.hl),(t.lh,t.hh)]
structure Zfw (f:Nat×Nat->Option Nat) (ps:List (Nat×Nat)) (Wt:List (Nat×Nat)):Prop where
 nodup:Wt.Nodup
 free:∀ κ∈Wt,f κ=none
 has:∀ p∈ps,p.1≠p.2->f (bkey p.1 p.2)=none->bkey p.1 p.2∈Wt
 len:Wt.length<=ps.length
theorem Zfw.skip {f:Nat×Nat->Option Nat} {ps Wt:List (Nat×Nat)} (h:Zfw f ps Wt) {p:Nat×Nat} (hp:p.1≠p.2->f (bkey p.1 p.2)=none->bkey p.1 p.2∈Wt):Zfw f (ps++[p]) Wt :=
 ⟨h.nodup,h.free,fun q hq=>by
  rcases List.mem_append.1 hq with hq|hq
  ·
   exact h.has q hq
  ·
   simp only[List.mem_singleton] at hq;subst hq;exact hp,by have:=h.len;simp;omega⟩
theorem Zfw.add {f:Nat×Nat->Option Nat} {ps Wt:List (Nat×Nat)} (h:Zfw f ps Wt) {p:Nat×Nat} (h1:f (bkey p.1 p.2)=none) (h2:bkey p.1 p.2∉Wt):Zfw f (ps++[p]) (Wt++[bkey p.1 p.2]) :=
 ⟨List.nodup_append.2 ⟨h.nodup,by simp,fun a ha b hb=>by simp only[List.mem_singleton] at hb;subst hb;rintro rfl;exact h2 ha⟩,fun κ hκ=>by
  rcases List.mem_append.1 hκ with hκ|hκ
  ·
   exact h.free κ hκ
  ·
   simp only[List.mem_singleton] at hκ;subst hκ;exact h1,fun q hq h3 h4=>by
  rcases List.mem_append.1 hq with hq|hq
  ·
   exact List.mem_append_left _ (h.has q hq h3 h4)
  ·
   simp only[List.mem_singleton] at hq;subst hq;simp,by have:=h.len;simp;omega⟩
def Zkx (Wt:List (Nat×Nat)):List ((Nat×Nat)×Value):=Wt.map fun κ=>(κ,.bool true)
theorem Zky (κ:Nat×Nat):∀ (Wt:List (Nat×Nat)) (i:Nat),(Zbw κ (Zkx Wt) i).map (·.2)=if κ∈Wt then some (.bool true) else none
 | [],_=>rfl
 | a::l,i=>by
   show (if a=κ then some (i,Value.bool true) else Zbw κ (Zkx l) (i+1)).map (·.2)=_
   by_cases e:a=κ
   ·
    rw[if_pos e];simp[e]
   ·
    rw[if_neg e,Zky κ l (i+1)];simp[Ne.symm e]
theorem Zz0 (Wt:List (Nat×Nat)) (κ:Nat×Nat):(getL (Zkx Wt) κ).getD (.bool false)=.bool (decide (κ∈Wt)):=by
 unfold getL;rw[Zky]
 by_cases h:κ∈Wt
 ·
  rw[if_pos h,decide_eq_true h];rfl
 ·
  rw[if_neg h,decide_eq_false h];rfl
theorem Zz1 {Wt:List (Nat×Nat)} {κ:Nat×Nat} (h:κ∉Wt):putL κ (.bool true) (Zkx Wt)=Zkx (Wt++[κ]):=by
 have h1:=Zky κ Wt 0;rw[if_neg h] at h1;unfold putL;cases e:Zbw κ (Zkx Wt) 0 with
 | none=>simp[Zkx]
 | some p=>rw[e] at h1;cases h1
theorem Zyt {o:Own} {w:World} {sb:Nat} {d:Zac} {s:Za0} (h:Zal o w sb d s) (hlt:Zai o w) (x:Nat) (hx:x<d.vars.length) {v:Value} {ts:List TN} {base:Nat} (hr:TRow w base v ts) (hok:∀ t∈ts,t.ll<eMax/\t.lh<eMax/\t.hl<eMax/\t.hh<eMax) :
 Calls Tryz.prog 154 #[.pointer (some ⟨sb,0,none⟩),.int .i64 x,v] w fun e w'=>∃ Wt,e=.returned (.int .i64 (Wt:List (Nat×Nat)).length)/\Zfw (d.tab x) (ts.flatMap Zb4) Wt/\Below w.heap.size w w':=by
 obtain⟨a,c,rfl,hcells⟩:=hr.ex;have hsm:=hr.small;have HR:=Hd hr;obtain⟨gt,ct,hvt,hct,hvtl,hts⟩:=h.tabAt hx;obtain⟨c0,c1,c2,c3,c4,f0⟩:=cells5 h.blk;rw[hvt] at c2;have HTAB:=Hd (h.tab x (by rw[h.tlen];exact hx));have HLT:=Hd hlt;obtain⟨t,ht⟩:∃ t,t=s.ts.getD x 0:=⟨_,rfl⟩;rw[<- ht] at hct HTAB;have hxi:(x:Int)<s.ts.length:=by omega
 have HCE:=Hd hcells;have HOK:Hid (∀ k,∀ hk:k<ts.length,ts[k].ll<eMax/\ts[k].lh<eMax/\ts[k].hl<eMax/\ts[k].hh<eMax):=Hd fun k hk=>hok _ (List.getElem_mem hk)
 clear h hlt hr ht hvt hcells hok c0 c1 c3 c4 f0;have hmk:=Zb2 (P:=Tryz.prog) w 249;obtain⟨w1,hw1⟩:∃ w1,w1=w.alloc (.map #[] 0):=⟨_,rfl⟩;have HM1:Hid (Zaz w1 w.heap.size encE (Zkx [])):=by rw[hw1];exact Hd (Zd7 w encE)
 have HB1:Hid (Below w.heap.size w w1):=by rw[hw1];exact Hd (Zaf _ _)
 have hs1:w1.heap.size=w.heap.size+1:=by rw[hw1];simp
 rw[<- hw1] at hmk;clear hw1
 go_enter Tryz.func154,Tryz.ntmps154
 go_wp2_with fail
 go_loopw [8,22] (fun s8 s22 wr=>∃ (k:Nat) (Wt:List (Nat×Nat)),k<=ts.length/\s22=.int .i64 k/\s8=.int .i64 Wt.length/\Below w.heap.size w wr/\w1.heap.size<=wr.heap.size/\Zaz wr w.heap.size encE (Zkx Wt)/\Hid (Zfw (d.tab x) ((ts.take k).flatMap Zb4) Wt)) (fun _ s22 _=>ts.length-(intOf s22).toNat)
 case atStart=>exact⟨0,[],Nat.zero_le _,rfl,rfl,HB1.out,Nat.le_refl _,HM1.out,Hd ⟨List.nodup_nil,fun _ h=>by simp at h,fun _ h=>by simp at h,Nat.le_refl _⟩⟩
 case round =>
  obtain⟨k,Wt,hk,rfl,rfl,hbel,hsz,hmap,HW⟩:=hrel;have HBEL:=Hd hbel;have HMAP:=Hd hmap;clear hbel hmap
  by_cases hlt:k<ts.length
  ·
   obtain⟨g,rfl,hbg,hc⟩:=HCE.out k hlt;obtain⟨ok1,ok2,ok3,ok4⟩:=HOK.out k hlt
   have HTK:Hid ((ts.take (k+1)).flatMap Zb4=(ts.take k).flatMap Zb4++[(ts[k].ll,ts[k].hl),(ts[k].lh,ts[k].hh)]):=Hd (by
    rw[List.take_succ_eq_append_getElem hlt,List.flatMap_append];rfl)
   have hb':=HBEL.out;obtain⟨tn,htn⟩:∃ tn,tn=ts[k]:=⟨_,rfl⟩;rw[<- htn] at hc ok1 ok2 ok3 ok4 HTK;obtain⟨⟨i0,i1,i2,i3,i4⟩,ll,lh,hl,hh⟩:=tn;have e0:=(hb'.cell (p:=⟨g,k*9,none⟩) (Zab (hc 0 _ rfl))).trans (hc 0 _ rfl);have e1:=(hb'.cell (p:=⟨g,k*9+1,none⟩) (Zab (hc 1 _ rfl))).trans (hc 1 _ rfl);have e2:=(hb'.cell (p:=⟨g,k*9+2,none⟩) (Zab (hc 2 _ rfl))).trans (hc 2 _ rfl);have e3:=(hb'.cell (p:=⟨g,k*9+3,none⟩) (Zab (hc 3 _ rfl))).trans (hc 3 _ rfl);have e4:=(hb'.cell (p:=⟨g,k*9+4,none⟩) (Zab (hc 4 _ rfl))).trans (hc 4 _ rfl);have e5:=(hb'.cell (p:=⟨g,k*9+5,none⟩) (Zab (hc 5 _ rfl))).trans (hc 5 _ rfl);have e6:=(hb'.cell (p:=⟨g,k*9+6,none⟩) (Zab (hc 6 _ rfl))).trans (hc 6 _ rfl);have e7:=(hb'.cell (p:=⟨g,k*9+7,none⟩) (Zab (hc 7 _ rfl))).trans (hc 7 _ rfl);have e8:=(hb'.cell (p:=⟨g,k*9+8,none⟩) (Zab (hc 8 _ rfl))).trans (hc 8 _ rfl);dsimp only at ok1 ok2 ok3 ok4 HTK;have hkz:(k:Int)<ts.length:=by omega
   clear hc hb' htn;go_upto_region 7 with fail;obtain⟨wi,hwi⟩:∃ wi,wi=(wr.alloc (.cells #[.int .i64 i0,.int .i64 i1,.int .i64 i2,.int .i64 i3,.int .i64 i4,.int .i64 ll,.int .i64 lh,.int .i64 hl,.int .i64 hh] 236)).alloc (.cells #[.int .i64 ll,.int .i64 hl,.int .i64 lh,.int .i64 hh] 205):=⟨_,rfl⟩;rw[<- hwi];have hbi:Below wr.heap.size wr wi:=by rw[hwi];exact(Zaf _ _).alloc (by simp) _
   have hblk:wi.heap[wr.heap.size+1]?=some (.cells #[.int .i64 ll,.int .i64 hl,.int .i64 lh,.int .i64 hh] 205 (0,0)):=by
    rw[hwi];have:=heap_alloc_new (wr.alloc (.cells #[.int .i64 i0,.int .i64 i1,.int .i64 i2,.int .i64 i3,.int .i64 i4,.int .i64 ll,.int .i64 lh,.int .i64 hl,.int .i64 hh] 236)) (.cells #[.int .i64 ll,.int .i64 hl,.int .i64 lh,.int .i64 hh] 205);rw[World.size_alloc] at this;exact this
   have HP:Hid (∀ j,j<2->∃ p1 p2:Nat,wi.cell? ⟨wr.heap.size+1,j*2,none⟩=some (.int .i64 p1)/\wi.cell? ⟨wr.heap.size+1,j*2+1,none⟩=some (.int .i64 p2)/\p1<eMax/\p2<eMax/\[(ll,hl),(lh,hh)].take (j+1)=[(ll,hl),(lh,hh)].take j++[(p1,p2)]):=by
    refine Hd fun j hj=>?_
    rcases(by omega:j=0\/j=1) with rfl|rfl
    ·
     exact⟨ll,hl,by rw[cell_of_row _ _ _ _ _ _ hblk];rfl,by rw[cell_of_row _ _ _ _ _ _ hblk];rfl,ok1,ok3,rfl⟩
    ·
     exact⟨lh,hh,by rw[cell_of_row _ _ _ _ _ _ hblk];rfl,by rw[cell_of_row _ _ _ _ _ _ hblk];rfl,ok2,ok4,rfl⟩
   have HBI:=Hd (HBEL.out.trans (hbi.mono HBEL.out.size));have hmi:=HMAP.out.below hbi;have hszi:w1.heap.size<=wi.heap.size:=Nat.le_trans hsz hbi.size;have hnb:wr.heap.size+1<wi.heap.size:=(Array.getElem?_eq_some_iff.1 hblk).1;clear hwi hblk e0 e1 e2 e3 e4 e5 e6 e7 e8 ok1 ok2 ok3 ok4 HMAP HBEL hbi
   go_loopw [8,38] (fun s8 s38 wx=>∃ (j:Nat) (Wt:List (Nat×Nat)),j<=2/\s38=.int .i64 j/\s8=.int .i64 Wt.length/\Below w.heap.size w wx/\wi.heap.size<=wx.heap.size/\(∀ q,q≠w.heap.size->q<wi.heap.size->wx.heap[q]?=wi.heap[q]?)/\Zaz wx w.heap.size encE (Zkx Wt)/\Hid (Zfw (d.tab x) ((ts.take k).flatMap Zb4++[(ll,hl),(lh,hh)].take j) Wt)) (fun _ s38 _=>2-(intOf s38).toNat)
   case atStart=>exact⟨0,Wt,Nat.zero_le _,rfl,rfl,HBI.out,Nat.le_refl _,fun _ _ _=>rfl,hmi,Hd (by simpa using HW.out)⟩
   case round =>
    rename World=>wy
    clear HW hmi;obtain⟨j,W2,hj,rfl,rfl,hbel,hszy,hkeep,hmap,HW⟩:=hrel
    by_cases hlt2:j<2
    ·
     obtain⟨p1,p2,k1,k2,b1,b2,hpt⟩:=HP.out j hlt2;have q1:=(World.cell?_of_block (w:=wi) (w':=wy) (a:=⟨wr.heap.size+1,j*2,none⟩) (hkeep _ (by dsimp only;omega) hnb)).trans k1;have q2:=(World.cell?_of_block (w:=wi) (w':=wy) (a:=⟨wr.heap.size+1,j*2+1,none⟩) (hkeep _ (by dsimp only;omega) hnb)).trans k2;have HPT:=Hd hpt;have HKEEP:=Hd hkeep;have HBY:=Hd hbel;have HMY:=Hd hmap;have hjz:(j:Int)<2:=by omega
     clear k1 k2 hpt hkeep hbel hmap;go_upto_region 9 with fail;obtain⟨wz,hwz⟩:∃ wz,wz=wy.alloc (.cells #[.int .i64 p1,.int .i64 p2] 205):=⟨_,rfl⟩;rw[<- hwz];have hbz:Below wy.heap.size wy wz:=by rw[hwz];exact Zaf _ _
     have hblk:wz.heap[wy.heap.size]?=some (.cells #[.int .i64 p1,.int .i64 p2] 205 (0,0)):=by rw[hwz];exact heap_alloc_new _ _
     have z1:wz.cell? ⟨wy.heap.size,0,none⟩=some (.int .i64 p1):=by rw[cell_of_row _ _ 0 _ _ _ hblk];rfl
     have z2:wz.cell? ⟨wy.heap.size,1,none⟩=some (.int .i64 p2):=by rw[cell_of_row _ _ 1 _ _ _ hblk];rfl
     have HBZ:=Hd (HBY.out.trans (hbz.mono HBY.out.size));have HMZ:=Hd (HMY.out.below hbz);have HKZ:Hid (∀ q,q≠w.heap.size->q<wi.heap.size->wz.heap[q]?=wi.heap[q]?):=Hd fun q h1 h2=>(hbz.block q (by omega)).trans (HKEEP.out q h1 h2)
     have hsz2:wi.heap.size<=wz.heap.size:=Nat.le_trans hszy hbz.size;have v2:=(HBZ.out.cell (p:=⟨sb,2,none⟩) (Zab c2)).trans c2;have vt:=(HBZ.out.cell (p:=⟨gt,x,none⟩) (Zab hct)).trans hct;clear hwz hbz hblk q1 q2 HMY HKEEP HBY;obtain⟨a1,ha1⟩:∃ q,q=eflip p1 (eneg p2):=⟨_,rfl⟩;obtain⟨a2,ha2⟩:∃ q,q=eflip p2 (eneg p2):=⟨_,rfl⟩;have HBK:Hid (bkey p1 p2=(a1,a2)):=Hd (by unfold bkey;rw[ha1,ha2])
     have HNE:Hid (a1=a2↔p1=p2):=Hd ⟨fun e=>by
      by_cases e2:p1=p2
      ·
       exact e2
      ·
       exact(Zjk (b:=eneg p2) e2 (by rw[<- ha1,<- ha2,e])).elim,fun e=>by rw[ha1,ha2,e]⟩
     have HNORM:=Hd (Znn p1 p2 wz b1 b2);rw[<- ha1,<- ha2] at HNORM;obtain⟨ng,hng⟩:∃ q,q=eneg p2:=⟨_,rfl⟩;rw[<- hng] at HNORM;have HTZ:=Hd (HTAB.out.below HBZ.out HLT.out);clear ha1 ha2 hng b1 b2;go_wp2_with fail;refine HNORM.out.mono ?_;rintro e w' ⟨rfl,rfl⟩;clear HNORM z1 z2;have hk1:∃ fd:Option Nat,fd=d.tab x (a1,a2):=⟨_,rfl⟩;obtain⟨fd,hfd⟩:=hk1;have HFIND:Hid (Calls Tryz.prog 147 #[.pointer (some ⟨t,0,none⟩),.int .i64 a1,.int .i64 a2] wz fun x w'=>x=.returned (.tuple #[.int .i64 ((fd.getD 0:Nat):Int),.bool fd.isSome])/\wz=w'):=by
      refine Hd ?_;cases fd with
      | none=>exact Zre o x t (d.tab x) a1 a2 wz HTZ.out hfd.symm
      | some id=>exact Zna o x t (d.tab x) a1 a2 id wz HTZ.out hfd.symm
     have HFD:=Hd hfd;clear hfd;go_wp2_with fail;refine HFIND.out.mono ?_;rintro e w' ⟨rfl,rfl⟩;clear HFIND v2 vt;go_upto_region 12 with fail;obtain⟨wk,hwk⟩:∃ wk,wk=wz.alloc (.cells #[.int .i64 a1,.int .i64 a2] 205):=⟨_,rfl⟩;rw[<- hwk];have hbk:Below wz.heap.size wz wk:=by rw[hwk];exact Zaf _ _
     have hblk:wk.heap[wz.heap.size]?=some (.cells #[.int .i64 a1,.int .i64 a2] 205 (0,0)):=by rw[hwk];exact heap_alloc_new _ _
     have z1:wk.cell? ⟨wz.heap.size,0,none⟩=some (.int .i64 a1):=by rw[cell_of_row _ _ 0 _ _ _ hblk];rfl
     have z2:wk.cell? ⟨wz.heap.size,1,none⟩=some (.int .i64 a2):=by rw[cell_of_row _ _ 1 _ _ _ hblk];rfl
     have HBK2:=Hd (HBZ.out.trans (hbk.mono HBZ.out.size));have HMK:=Hd (HMZ.out.below hbk);have HKK:Hid (∀ q,q≠w.heap.size->q<wi.heap.size->wk.heap[q]?=wi.heap[q]?):=Hd fun q h1 h2=>(hbk.block q (by omega)).trans (HKZ.out q h1 h2)
     have hsz3:wi.heap.size<=wk.heap.size:=Nat.le_trans hsz2 hbk.size;clear hwk hbk hblk HMZ HKZ HBZ HTZ
     by_cases hpp:p1=p2
     ·
      have heq:a1=a2:=HNE.out.2 hpp;have HW2:Hid (Zfw (d.tab x) ((ts.take k).flatMap Zb4++[(ll,hl),(lh,hh)].take (j+1)) W2):=Hd (by rw[HPT.out,<- List.append_assoc];exact HW.out.skip fun h=>(h hpp).elim);have heqi:((a1:Int) == a2)=true:=by simp[heq]
      clear hpp heq;go_wp2_with fail;go_roundw
      case rel=>exact⟨j+1,W2,by omega,by go_num,rfl,HBK2.out,hsz3,HKK.out,HMK.out,HW2⟩
      case measure=>simp[intOf];omega
     have heqi:((a1:Int) == a2)=false:=by
      have h1:a1≠a2:=fun e=>hpp (HNE.out.1 e)
      simp;omega
     cases fd with
     | some id =>
       have HW2:Hid (Zfw (d.tab x) ((ts.take k).flatMap Zb4++[(ll,hl),(lh,hh)].take (j+1)) W2):=Hd (by
        rw[HPT.out,<- List.append_assoc];exact HW.out.skip fun _ h=>by rw[HBK.out,<- HFD.out] at h;cases h)
       clear hpp;go_wp2_with fail;go_roundw
       case rel=>exact⟨j+1,W2,by omega,by go_num,rfl,HBK2.out,hsz3,HKK.out,HMK.out,HW2⟩
       case measure=>simp[intOf];omega
     | none =>
       have hlook:=HMK.out.lookup (P:=Tryz.prog) Zpn Tryz.underlying249 Tryz.zeroValue4 (a1,a2) false;rw[Zz0] at hlook;simp only[Bool.false_eq_true,if_false] at hlook
       by_cases hin:(a1,a2)∈W2
       ·
        rw[decide_eq_true hin] at hlook
        have HW2:Hid (Zfw (d.tab x) ((ts.take k).flatMap Zb4++[(ll,hl),(lh,hh)].take (j+1)) W2):=Hd (by
         rw[HPT.out,<- List.append_assoc];exact HW.out.skip fun _ _=>by rw[HBK.out];exact hin)
        unfold encE at hlook;dsimp only at hlook;clear hpp hin;go_wp2_with fail;go_roundw
        case rel=>exact⟨j+1,W2,by omega,by go_num,rfl,HBK2.out,hsz3,HKK.out,HMK.out,HW2⟩
        case measure=>simp[intOf];omega
       ·
        rw[decide_eq_false hin] at hlook
        have HW2:Hid (Zfw (d.tab x) ((ts.take k).flatMap Zb4++[(ll,hl),(lh,hh)].take (j+1)) (W2++[(a1,a2)])):=Hd (by
         rw[HPT.out,<- List.append_assoc];have:=HW.out.add (p:=(p1,p2)) (by rw[HBK.out,<- HFD.out]) (by rw[HBK.out];exact hin);rw[HBK.out] at this;exact this)
        have HPUT:=Hd (Zz1 hin);have hwl:W2.length<=4194312:=by
         have h1:=HW.out.len;have h2:((ts.take k).flatMap Zb4).length<=2*ts.length:=by
          rw[List.length_flatMap];have:((ts.take k).map fun a=>(Zb4 a).length)=List.replicate (ts.take k).length 2:=by
           rw[List.eq_replicate_iff];exact⟨by simp,fun b hb=>by obtain⟨q,_,rfl⟩:=List.mem_map.1 hb;rfl⟩
          rw[this];simp;omega
         have h3:([(ll,hl),(lh,hh)].take j).length<=2:=by simp;omega
         rw[List.length_append] at h1;omega
        unfold encE at hlook;dsimp only at hlook;clear hpp hin;go_wp2_with (refine Zg5 (l:=Zkx W2) (enc:=encE) rfl _ _ _ rfl Zpn Tryz.underlying249 (a1,a2) (.bool true) rfl rfl rfl HMK.out ?_;intro w6 hm6 hg6);rw[HPUT.out] at hm6;have HB6:=Hd (HBK2.out.grown hg6 HBK2.out.size (fun q hq=>by cases hq;exact Nat.le_refl _));have HM6:=Hd hm6;have hs6:wi.heap.size<=w6.heap.size:=Nat.le_trans hsz3 hg6.size;have HK6:Hid (∀ q,q≠w.heap.size->q<wi.heap.size->w6.heap[q]?=wi.heap[q]?):=Hd fun q h1 h2=>(hg6.block q (by omega) (fun e=>h1 (by injection e))).trans (HKK.out q h1 h2)
        clear hm6 hg6;go_roundw
        case rel=>exact⟨j+1,W2++[(a1,a2)],by omega,by go_num,by simp,HB6.out,hs6,HK6.out,HM6.out,HW2⟩
        case measure=>simp[intOf];omega
    ·
     have hj2:j=2:=by omega
     subst hj2;have HW3:Hid (Zfw (d.tab x) ((ts.take (k+1)).flatMap Zb4) W2):=Hd (by rw[HTK.out];exact HW.out);have HBY:=Hd hbel;have HMY:=Hd hmap;have hs9:w1.heap.size<=wy.heap.size:=Nat.le_trans hszi hszy;clear hbel hmap hkeep;go_wp2_with fail;go_roundw
     case rel=>exact⟨k+1,W2,by omega,by go_num,rfl,HBY.out,hs9,HMY.out,HW3⟩
     case measure=>simp[intOf];omega
  ·
   have hke:k=ts.length:=by omega
   have HWF:Hid (∃ W':List (Nat×Nat),Ending.returned (.int .i64 (Wt.length:Nat))=.returned (.int .i64 (W'.length:Nat))/\Zfw (d.tab x) (ts.flatMap Zb4) W'/\Below w.heap.size w wr):=Hd ⟨Wt,rfl,by have:=HW.out;rw[hke,List.take_length] at this;exact this,HBEL.out⟩;have hkz:¬ (k:Int)<ts.length:=by omega
   clear hke;go_wp2_with fail;go_ret;exact HWF.out
end Go.Proofs.YtlgogjbkadckkaaGreat

namespace Go.Proofs.YtlgogjbkadckkaaGreat
open Go.RowKit Go.Shelf
open Go.ChangeMaps (setBlock)
def Yap (n:Nat) (w:World) (v:Value) (ks:List (Nat×Nat)):Prop:=∃ a c,v=.slice a ks.length c/\∀ j q,ks[j]?=some q->∃ g,a=some ⟨g,0,none⟩/\n<=g/\w.cell? ⟨g,j*2,none⟩=some (.int .i64 q.1)/\w.cell? ⟨g,j*2+1,none⟩=some (.int .i64 q.2)
theorem Zkh (ks:List (Nat×Nat)) {j:Nat} {q:Nat×Nat} (h:ks[j]?=some q) (i:Nat) (hi:i<2):(Go.Sort.flatK Zc9 2 ks.toArray)[j*2+i]! = (Zc9 q)[i]! := by
 obtain⟨hj,rfl⟩:=List.getElem?_eq_some_iff.1 h;rw[Go.Sort.get_flatK _ _ _ _ (by simp;omega)];have e1:(j*2+i)/2=j:=by omega
 have e2:(j*2+i)%2=i:=by omega
 rw[e1,e2];congr 2;simp[hj]
theorem Zzh (ks:List (Nat×Nat)):(ks.flatMap Zc9).length=ks.length*2:=Za6 Zc9 2 (fun _=>rfl) ks
theorem Zuc {oG:Own} {w:World} {g cap m:Nat} {ks:List (Nat×Nat)} (h:RowR oG w .slots 205 2 (.slice (some ⟨g,0,none⟩) m cap) ks.length (ks.flatMap Zc9)):Go.Sort.HoldsK Zc9 2 w g 0 ks.toArray:=by
 intro j hj;have hj':j<ks.length*2:=by simpa using hj
 refine⟨?_,by rw[Nat.zero_add];exact h.frozen j⟩;rw[Nat.zero_add,h.cell j (by rw[Zzh];exact hj')];have hd:j/2<ks.length:=by omega
 have hm:j%2<2:=by omega
 have e:j=j/2*2+j%2:=by omega
 obtain⟨q,hq⟩:∃ q,ks[j/2]?=some q:=⟨_,List.getElem?_eq_getElem hd⟩;have h1:=Zfe Zc9 2 (fun _=>rfl) ks (j/2) (j%2) q hq hm;have h2:=Zkh ks hq (j%2) hm;rw[<- e] at h1 h2;rw[h1,h2];obtain h0|h0:j%2=0\/j%2=1:=by omega
 ·
  rw[h0];rfl
 ·
  rw[h0];rfl
theorem Zpp {n:Nat} {w:World} {g cap:Nat} {ks:List (Nat×Nat)} (hg:n<=g) (h:Go.Sort.HoldsK Zc9 2 w g 0 ks.toArray):Yap n w (.slice (some ⟨g,0,none⟩) ks.length cap) ks:=by
 refine⟨_,_,rfl,fun j q hq=>⟨g,rfl,hg,?_,?_⟩⟩
 ·
  have hj:=(List.getElem?_eq_some_iff.1 hq).1;have h1:=(h (j*2) (by simp;omega)).1;have h2:=Zkh ks hq 0 (by omega);rw[Nat.add_zero] at h2;rw[Nat.zero_add] at h1;rw[h1,h2];rfl
 ·
  have hj:=(List.getElem?_eq_some_iff.1 hq).1;have h1:=(h (j*2+1) (by simp;omega)).1;have h2:=Zkh ks hq 1 (by omega);rw[Nat.zero_add] at h1;rw[h1,h2];rfl
theorem Zz8 {f:Nat×Nat->Option Nat} {W w:World} {v:Value} {ks:List (Nat×Nat)} {oG:Own} {Bx t mb:Nat} {lm:List ((Nat×Nat)×Value)} (row:RowR oG w .slots 205 2 v ks.length (ks.flatMap Zc9)) (hlen:ks.length<1000000000) (hlow:Below W.heap.size W w)
 (cB:W.cell? ⟨Bx,0,none⟩=some (.pointer (some ⟨t,0,none⟩))) (cT:W.cell? ⟨t,0,none⟩=some (.map (some mb))) (ge:∀ k r,oG k=some r->W.heap.size<=k) (lt:Zai oG w) (hmap:∀ W':World,W'.heap[mb]?=W.heap[mb]?->Zaz W' mb encE lm) (hget:∀ k,getL lm k=(f k).map (fun(id:Nat)=>Value.int .i64 id))
 (lB:Bx<W.heap.size) (lT:t<W.heap.size) (lM:mb<W.heap.size) :
 Calls Tryz.prog 179 #[v,.func (.func 180) #[] #[.pointer (some ⟨Bx,0,none⟩)]] w fun e w'=>e=.returned (.tuple #[])/\∃ ks':List (Nat×Nat),ks'.Perm ks/\Yap W.heap.size w' v ks'/\Below W.heap.size W w':=by
 rcases row.ex with ⟨rfl,h0⟩|⟨g,cap,cur,rfl,hog,hg,_⟩
 ·
  have hk:ks=[]:=List.eq_nil_of_length_eq_zero h0;subst hk;have hcon:=AnyF.slices_SortFunc_none Tryz.sortKeys none 0 (.func (.func 180) #[] #[.pointer (some ⟨Bx,0,none⟩)]) w
  change Calls Tryz.prog 179 _ _ _ at hcon
  refine hcon.mono ?_;rintro e w' ⟨rfl,rfl⟩;exact⟨rfl,[],List.Perm.refl _,⟨none,0,rfl,fun j q h=>by simp at h⟩,hlow⟩
 ·
  have h1:=ge g _ hog;refine(Zri (f:=f) (Zuc row) (lt g _ hog) hlen ((hlow.cell (p:=⟨Bx,0,none⟩) lB).trans cB) ((hlow.cell (p:=⟨t,0,none⟩) lT).trans cT) (hmap w (hlow.block mb lM)) hget (by omega) (by omega) (by omega)).mono ?_;rintro e w' ⟨rfl,ks',hp,hh,hs,e1,e2,e3,hk⟩;have:=hp.length_eq;refine⟨rfl,ks',hp,?_,⟨e1.trans hlow.os,e2.trans hlow.tape,e3.trans hlow.output,Nat.le_trans hlow.size hs,fun b hb=>(hk b (Nat.lt_of_lt_of_le hb hlow.size) (by omega)).trans (hlow.block b hb)⟩⟩;rw[<- this];exact Zpp h1 hh
theorem Zu8 {F:Fence} {n:Nat} {P:Program} {c:Code} {Q:Exit->Act->World->Prop} {a:Act} {w:World} (R:World->Prop) (h:∃ A,c.wpIn F n P (fun e a' W'=>match e with|.normal=>a'=A/\R W'|_=>False) a w/\∀ W',R W'->Q .normal A W'):c.wpIn F n P Q a w:=by
 obtain⟨A,h1,h2⟩:=h;refine wpIn_mono h1 ?_;intro e a' W' h;cases e with
 | normal=>obtain⟨rfl,h3⟩:=h;exact h2 _ h3
 | _=>exact h.elim
structure YS (n₀:Nat) (W w2:World) (Bx t:Nat) (ak:Option Addr) (ks:List (Nat×Nat)) (M M1:Nat->Prop) (wr:World):Prop where
 low:Below n₀ W wr
 box:wr.cell? ⟨Bx,0,none⟩=some (.pointer (some ⟨t,0,none⟩))
 keys:∀ j q,ks[j]?=some q->∃ g,ak=some ⟨g,0,none⟩/\W.heap.size<=g/\g<w2.heap.size/\wr.cell? ⟨g,j*2,none⟩=some (.int .i64 q.1)/\wr.cell? ⟨g,j*2+1,none⟩=some (.int .i64 q.2)
 nb:¬ M1 Bx
 sub:∀ k,M1 k->M k\/w2.heap.size<=k
 lt:∀ k,M k->k<W.heap.size
 ge:∀ k,M1 k->n₀<=k
 wr:Wr (fun k=>n₀<=k) w2 wr
theorem YS.go {n₀:Nat} {W w2:World} {Bx t:Nat} {ak:Option Addr} {ks:List (Nat×Nat)} {M M1 M2:Nat->Prop} {wr wx w':World} (h:YS n₀ W w2 Bx t ak ks M M1 wr) (hn:n₀<=W.heap.size) (hx:Below wr.heap.size wr wx) (hw:Wr M1 wx w') (hM:∀ k,M2 k->M1 k\/wx.heap.size<=k):YS n₀ W w2 Bx t ak ks M M2 w':=by
 have s0:=h.low.size;have s1:=h.wr.size;have s2:=hx.size;have keep:∀ {b k:Nat} {v:Value},wr.cell? ⟨b,k,none⟩=some v->¬ M1 b->w'.cell? ⟨b,k,none⟩=some v:=fun {b k v} hc hb=>by
  have hb':b<wr.heap.size:=Zab hc;exact(World.cell?_of_block (w:=wx) (a:=⟨b,k,none⟩) (hw.keep b (by omega) hb)).trans ((hx.cell (p:=⟨b,k,none⟩) hb').trans hc)
 refine⟨h.low.trans ((hx.mono (by omega)).trans (hw.below h.ge (by omega))),keep h.box h.nb,fun j q hq=>?_,fun e=>?_,fun k hk=>?_,h.lt,fun k hk=>?_,h.wr.trans ((Wr.of_below hx (fun k=>n₀<=k)).trans hw (fun _ _ e=>e) (fun k _ hk=>h.ge k hk)) (fun _ _ e=>e) (fun _ _ e=>e)⟩
 ·
  obtain⟨g,e,a1,a2,a3,a4⟩:=h.keys j q hq;have hg:¬ M1 g:=fun hg=>by
   rcases h.sub g hg with h1|h1
   ·
    have:=h.lt g h1;omega
   ·
    omega
  exact⟨g,e,a1,a2,keep a3 hg,keep a4 hg⟩
 ·
  rcases hM Bx e with h1|h1
  ·
   exact h.nb h1
  ·
   have:=Zab h.box;simp at this;omega
 ·
  rcases hM k hk with h1|h1
  ·
   exact h.sub k h1
  ·
   right;omega
 ·
  rcases hM k hk with h1|h1
  ·
   exact h.ge k h1
  ·
   omega
theorem Zlt (n n₀ Bx t v:Nat) {o:Own} {w0:World} {f:Nat×Nat->Option Nat} (ht:Zc0 o w0 v t f) (hlt:Zai o w0) (h0:w0.heap.size<=n₀) (w:World) (hw:Below n₀ w0 w) (hn0:n₀<=w.heap.size) (hBn:n₀<=Bx) (hBp:w.cell? ⟨Bx,0,none⟩=some (.pointer (some ⟨t,0,none⟩)))
 (hcard:∀ l:List ((Nat×Nat)×Value),(l.map Prod.fst).Nodup->(∀ k,getL l k=(f k).map (fun(id:Nat)=>Value.int .i64 id))->l.length<1000000000) :
 Yao Fence.wide n 0 Tryz.prog 178 #[.pointer (some ⟨Bx,0,none⟩)] (fun p:(Nat×Nat)×Nat=>#[encE p.1,.int .i64 p.2]) n₀ (· = Bx) (fun xs=>(xs.map Prod.fst).Nodup/\∀ k id,(k,id)∈xs↔f k=some id) w:=by
 intro l J M W hOw hMi hWr hBM hY hJ;have hBW:Bx<W.heap.size:=Nat.lt_of_lt_of_le (Zab hBp) hWr.size;have hlow:Below n₀ w0 W:=hw.trans (hWr.below (fun k h=>h.1) hn0);have cB:W.cell? ⟨Bx,0,none⟩=some (.pointer (some ⟨t,0,none⟩)):=(World.cell?_of_block (w:=w) (a:=⟨Bx,0,none⟩) (hWr.keep Bx (Zab hBp) (fun h=>h.2 rfl))).trans hBp;obtain⟨mb,lm,h1,h2,h3,h4⟩:=ht.ex;have htl:t<w0.heap.size:=(Array.getElem?_eq_some_iff.1 h1).1;have hT:W.heap[t]?=some (.cells #[.map (some mb)] 193 (0,0)):=(hlow.block t (by omega)).trans h1;have cT:=cell1 hT;have hmb:mb<w0.heap.size:=h3.lt;obtain⟨es,clock,hme,hel,hborn,hbn⟩:=h3.ex;have hM:W.heap[mb]?=some (.map es clock):=(hlow.block mb (by omega)).trans hme;have hrg:=run_range_map (P:=Tryz.prog) W 191 _ _ mb es clock Tryz.underlying191 hM;obtain⟨W1,hW1⟩:∃ W1,W1=W.alloc (.mapIter (some mb) clock #[] clock):=⟨_,rfl⟩;have hb1:Below W.heap.size W W1:=by rw[hW1];exact Zaf _ _
 have hi1:W1.heap[W.heap.size]?=some (.mapIter (some mb) clock #[] clock):=by rw[hW1];exact heap_alloc_new _ _
 rw[<- hW1] at hrg;have hmW:mb<W.heap.size:=by have:=hlow.size;omega
 have hesz:es.size<1000000000:=by
  have e1:=congrArg List.length hel;have e2:=hcard lm h3.nodup h4;simp at e1;omega
 have HESZ:=Hd hesz;have HMAP:Hid (∀ W',W'.heap[mb]?=W.heap[mb]?->Zaz W' mb encE lm):=Hd fun W' hh=>⟨⟨es,clock,hh.trans hM,hel,hborn,hbn⟩,h3.nodup⟩
 have HGET:=Hd h4;have HLM:=Hd (hcard lm h3.nodup h4);have HND:=Hd h3.nodup;have HM:=Hd hM;have HBORN:=Hd hborn;have HBN:=Hd hbn;have HEL:=Hd hel;have HB1:=Hd hb1;have HI1:=Hd hi1;have HJ:=Hd hJ;have HNB:=Hd (hBM Bx rfl);have HY:=Hd hY;have HOW:=Hd hOw;have HMI:=Hd hMi;obtain⟨r,hr⟩:∃ r,r=W.heap.size:=⟨_,rfl⟩;rw[<- hr] at hrg HI1;have HR:=Hd hr;clear hcard hesz hJ hY hOw hMi hb1 hi1 hW1 hM hborn hbn hel h1 h2 h3 h4 hT hme ht hWr hBM hw hr;refine callsIn_of_wp Tryz.func178 rfl trivial ?_ rfl;refine wpIn_wide.2 ?_;simp only[Tryz.ntmps178,List.size_toArray,List.length_cons,List.length_nil,Nat.reduceAdd,Nat.reduceSub,Array.replicate_succ,Array.replicate_zero,List.push_toArray,List.append_toArray,List.nil_append,List.cons_append];go_wp2_with fail
 go_loopg [3] (leftOf es #[]).size (fun gk s3 wr=>∃ seen ks sl oG,KeyS W mb r clock es seen ks sl s3 oG wr/\gk=(leftOf es seen).size)
 case atStart=>exact⟨#[],[],[],fun _=>none,⟨HB1.out,HI1.out,Zj0.start es clock,RowR.nil _ _ _ _ _,fun k q h=>(by cases h),fun k q h=>(by cases h),rfl,by have h:(leftOf es #[]).size<=es.size:=(by unfold leftOf;exact Array.size_filter_le);simpa using h⟩,rfl⟩
 case round =>
  obtain⟨seen,ks,sl,oG,hS,hgk⟩:=hrel;have hMr:=(hS.low.block mb hmW).trans HM.out;have hlen:ks.length<1000000000:=by have:=hS.cnt;have:=HESZ.out;omega
  rcases run_next_at (P:=Tryz.prog) wr 0 r mb clock clock seen es clock hS.it hMr HBORN.out (Nat.le_refl _) with ⟨hz,hrun⟩|⟨e,he,w1,hw1,hrun⟩
  ·
   have hperm:=hS.came.keysOf (w:=W) (b:=mb) HBN.out hz HEL.out;have hsort:=Zz8 hS.row hlen (hS.low.trans (Below.refl _ _)) cB cT (fun k q h=>(hS.ge k q h).2) hS.lt HMAP.out HGET.out (Zab cB) (Zab cT) hmW;have HPERM:=Hd hperm;have HSORT:=Hd hsort;clear hS hz hperm hsort;go_wp2_with fail;refine HSORT.out.mono ?_;rintro x w2 ⟨rfl,ks',hp,hka,hb2⟩;obtain⟨ak,ck,rfl,hcells⟩:=hka;have HP:=Hd (hp.trans HPERM.out);have HCL:=Hd hcells;have HB2:=Hd hb2;have hJ2:J [] M w2:=HMI.out _ _ _ _ HJ.out ⟨hb2.os,hb2.tape,hb2.output,hb2.size,fun k hk _=>hb2.block k hk⟩;have HJ2:=Hd hJ2;clear hp hcells hb2 hJ2 hrun hMr hlen hgk;go_wp2_with fail;refine(wpIn_wide (n:=n)).1 ?_;obtain⟨xs,hxs⟩:∃ xs,xs=ks'.map (fun k=>(k,(f k).getD 0)):=⟨_,rfl⟩;have hgood:=Zwn HP.out HND.out HGET.out hxs;have hkl:ks'.length<1000000000:=by have h1:=HP.out.length_eq;have h2:=HLM.out;simp at h1;omega
   have HXS:=Hd hxs;have HGOOD:=Hd hgood;have hys:YS n₀ W w2 Bx t ak ks' M M w2:=by
    refine⟨HB2.out.mono (by omega),(HB2.out.cell (p:=⟨Bx,0,none⟩) (Zab cB)).trans cB,fun j q hq=>?_,HNB.out,fun k h=>.inl h,fun k hk=>(HOW.out _ _ _ HJ.out k hk).2,fun k hk=>(HOW.out _ _ _ HJ.out k hk).1,Wr.refl _ _⟩;obtain⟨g,a1,a2,a3,a4⟩:=HCL.out j q hq;exact⟨g,a1,a2,Zab a3,a3,a4⟩
   have HYS:=Hd hys;have hmx:Tryz.prog.follows .mixedOrders=true:=by kernel_rfl
   clear hxs hgood hys
   gi_loopw [27] (fun i wr=>∃ (k:Nat) (M1:Nat->Prop),k<=ks'.length/\i=.int .i64 k/\J (xs.take k) M1 wr/\YS n₀ W w2 Bx t ak ks' M M1 wr) (fun i _=>ks'.length-(intOf i).toNat)
   case atStart=>exact⟨0,M,Nat.zero_le _,rfl,HJ2.out,HYS.out⟩
   case round =>
    obtain⟨k,M1,hk,rfl,hJs,hS⟩:=hrel
    by_cases hlt1:k<ks'.length
    ·
     obtain⟨q,hq⟩:∃ q,ks'[k]?=some q:=⟨_,List.getElem?_eq_getElem hlt1⟩;obtain⟨g,hag,hg1,hg2,e0,e1⟩:=hS.keys k q hq;subst hag;have hk1:(k:Int)<ks'.length:=by omega
     have cB3:=hS.box;have cT3:=(hS.low.cell (p:=⟨t,0,none⟩) (by show t<n₀;omega)).trans cT;obtain⟨w3,hw3⟩:∃ w3,w3=wr.alloc (.cells #[.int .i64 q.1,.int .i64 q.2] 205):=⟨_,rfl⟩;have hb3:Below wr.heap.size wr w3:=by rw[hw3];exact Zaf _ _
     have hJ3:J (xs.take k) M1 w3.drew:=HMI.out _ _ _ _ hJs (by
      have:=(Wr.of_below hb3 (fun k=>n₀<=k/\¬ M1 k)).drew;exact this)
     have hsuf:=Zz9 (G:=fun xs:List ((Nat×Nat)×Nat)=>(xs.map Prod.fst).Nodup/\∀ k id,(k,id)∈xs↔f k=some id) HGOOD.out (k:=k) (x:=(q,(f q).getD 0)) (by rw[HXS.out,List.getElem?_map,hq];rfl);obtain⟨suf,hsuf,htake⟩:=hsuf;obtain⟨fn,tmps,assign,body,hy,hRR⟩:=HY.out _ (q,(f q).getD 0) M1 w3.drew hJ3 ⟨suf,hsuf⟩;have hmbn:mb<n₀:=by omega
     have hlook:=Yc9 (HMAP.out w3.drew ((hb3.block mb (by have:=hS.low.size;omega)).trans (hS.low.block mb hmbn))) HGET.out q;have hbx:w3.heap[wr.heap.size]?=some (.cells #[.int .i64 q.1,.int .i64 q.2] 205 (0,0)):=by rw[hw3];exact heap_alloc_new _ _
     obtain⟨x0,x1,_⟩:=cells2 hbx;have b3:=(hb3.cell (p:=⟨Bx,0,none⟩) (Zab cB3)).trans cB3;have t3:=(hb3.cell (p:=⟨t,0,none⟩) (Zab cT3)).trans cT3;simp only[encE] at hy;have HRR:=Hd hRR;have HS:=Hd hS;have HB3:=Hd hb3;have HTK:=Hd htake;have HW3:Hid (_=w3):=Hd hw3.symm;obtain⟨b6,hb6⟩:∃ b6,b6=wr.heap.size:=⟨_,rfl⟩;have HB6:Hid (_=b6):=Hd hb6.symm;rw[<- hb6] at x0 x1;clear hbx hS hb3 hJ3 hJs hsuf hRR htake hw3 hb6 hlt1 hg1 hg2 hq cB3 cT3
     gi_wp2
     rw[HW3.out,HB6.out];refine Zu8 (fun W'=>∃ M3,J (xs.take k++[(q,(f q).getD 0)]) M3 W'/\Wr M1 w3.drew W'/\∀ k,M3 k->M1 k\/w3.drew.heap.size<=k) ?_;apply Exists.intro;refine⟨?_,?_⟩
     ·
      gi_region_with_o (refine⟨fun h=>(by cases h),HRR.out.mono ?_⟩;rintro e W4 ⟨rfl,M3,hJ4,hw4,hM4⟩)
      all_goals exact⟨rfl,M3,hJ4,hw4,hM4⟩
     ·
      rintro W4 ⟨M3,hJ4,hw4,hM4⟩;have HJ4:=Hd hJ4;have HS4:=Hd (HS.out.go (by omega) (HB3.out.trans ((Zah w3 1).mono HB3.out.size)) hw4 hM4);clear hJ4 hw4 hM4 x0 x1 b3 t3 e0 e1 hlook hy
      gi_wp2
      go_roundw
      case rel=>exact⟨k+1,M3,by omega,by go_num,by rw[HTK.out];exact HJ4.out,HS4.out⟩
      case measure=>simp[intOf];omega
    ·
     obtain rfl:k=ks'.length:=by omega
     have HJS:=Hd hJs;have HS:=Hd hS;clear hJs hS
     gi_wp2
     go_end0;have ht:xs.take ks'.length=xs:=List.take_of_length_le (by rw[HXS.out];simp);rw[ht] at HJS;exact⟨⟨_,rfl⟩,xs,M1,HGOOD.out,HJS.out,(Wr.of_below HB2.out (fun k=>n₀<=k)).trans HS.out.wr (fun _ _ e=>e) (fun _ _ e=>e),fun k hk=>(HS.out.sub k hk).imp id fun h=>Nat.le_trans HB2.out.size h⟩
  ·
   have hem:=(mem_left he).1;obtain⟨q,hq⟩:∃ q,e.key=encE q:=by
    have h1:(e.key,e.val)∈es.toList.map (fun e=>(e.key,e.val)):=List.mem_map.2 ⟨e,hem,rfl⟩;rw[HEL.out] at h1;obtain⟨p,_,h2⟩:=List.mem_map.1 h1;exact⟨p.1,(Prod.mk.inj h2).1.symm⟩
   obtain⟨w2,hw2⟩:∃ w2,w2=setBlock w1 r (.mapIter (some mb) clock (seen.push e.born) clock):=⟨_,rfl⟩;have hw2s:=hw2;obtain⟨w3,hw3⟩:∃ w3,w3=w2.alloc (.cells #[.int .i64 q.1,.int .i64 q.2] 205):=⟨_,rfl⟩;have hb3:Below w2.heap.size w2 w3:=by rw[hw3];exact Zaf _ _
   obtain⟨row3,lt3⟩:=hS.row3 hw1 hw2 hb3;have z2:w2.heap.size=wr.heap.size:=by rw[hw2];rcases hw1 with rfl|rfl<;>simp[setBlock]
   have hrl:r<wr.heap.size:=(Array.getElem?_eq_some_iff.1 hS.it).1;have hmr:mb≠r:=by have:=HR.out;omega
   have hM2:w2.heap[mb]?=some (.map es clock):=by rw[hw2];rcases hw1 with rfl|rfl<;>simp[setBlock,Array.getElem?_setIfInBounds,Ne.symm hmr]<;>exact hMr
   have i2:w2.heap[r]?=some (.mapIter (some mb) clock (seen.push e.born) clock):=by rw[hw2];rcases hw1 with rfl|rfl<;>simp[setBlock,hrl]
   have hent:=run_entry_at (P:=Tryz.prog) w2 r mb clock seen es clock e i2 hM2 hem HBN.out;have HNX:Hid (∀ (g1 k1:Nat) (w4:World) (o1:Own),RowR o1 w4 .slots 205 2 (.slice (some ⟨g1,0,none⟩) (ks.length+1) k1) (ks.length+1) (ks.flatMap Zc9++Zc9 q)->Chg (· = .slots) oG o1 w3 w4->Zai o1 w4->KeyS W mb r clock es (seen.push e.born) (ks++[q]) (sl++[e]) (.slice (some ⟨g1,0,none⟩) (ks.length+1) k1) o1 w4) :=
    Hd fun g1 k1 w4 o1 a b c=>hS.next (by have:=HR.out;omega) he hq hw1 hw2 hb3 a b c
   have HSH:=Hd (left_shrinks es seen e he);have cB2:w3.cell? ⟨w2.heap.size,0,none⟩=some (.int .i64 q.1):=by rw[hw3,cell_of_row _ _ 0 _ _ _ (heap_alloc_new w2 _)];rfl
   have cB3:w3.cell? ⟨w2.heap.size,1,none⟩=some (.int .i64 q.2):=by rw[hw3,cell_of_row _ _ 1 _ _ _ (heap_alloc_new w2 _)];rfl
   have HGK:=Hd hgk;have HLEN:=Hd hlen;have HROW:=Hd row3;have HLT3:=Hd lt3;rw[hq] at hrun hent;rw[<- hw2] at hrun;unfold encE at hrun hent;have HW3:Hid (_=w3):=Hd hw3.symm;clear hS he hem hq hw1 hw2 hw2s hw3 hb3 row3 lt3 z2 hrl hmr hM2 i2 hMr hgk hlen;go_upto_region 5 with fail;rw[HW3.out]
   go_wp2_with (at_builtin
                refine Zdi (wr:=w3) 250 205 2 16 _ Tryz.underlying250 Yb4 rfl (by decide) rfl _ _ rfl rfl rfl rfl rfl rfl (by simp[Value.oneCell']) HROW.out HLT3.out HLEN.out (by decide) ?_;intro g1 k1 w4 o1 hr1 hc1 hl1;have HN4:=Hd (HNX.out g1 k1 w4 o1 hr1 hc1 hl1);clear hr1 hc1 hl1)
   go_roundg (leftOf es (seen.push e.born)).size
   case rel=>exact⟨_,_,_,_,HN4.out,rfl⟩
   case measure=>have h1:=HSH.out;have h2:=HGK.out;omega
open Go.RowKit
theorem Zhz:∀ (n:Nat) (l:List Nat),l.Nodup->(∀ x∈l,x<n)->l.length<=n
 | 0,l,_,h=>by
   cases l with
   | nil=>simp
   | cons a l=>have:=h a (by simp);omega
 | n+1,l,hn,h=>by
   by_cases hm:n∈l
   ·
    have h1:=Zhz n (l.erase n) (hn.erase n) (fun x hx=>by
     have h2:=h x (List.mem_of_mem_erase hx);have h3:x≠n:=fun e=>by subst e;exact(List.Nodup.not_mem_erase hn) hx
     omega)
    rw[List.length_erase_of_mem hm] at h1;omega
   ·
    have h1:=Zhz n l hn (fun x hx=>by
     have h2:=h x hx;have h3:x≠n:=fun e=>by subst e;exact hm hx
     omega)
    omega
theorem Yab {d:Zac} {x:Nat} (ht:∀ lo hi id,d.tab x (lo,hi)=some id->Zaa d id=some ⟨x,lo,hi⟩) {n:Nat} (hlt:∀ i b,Zaa d i=some b->i<n) (hn:n<1000000000) (l:List ((Nat×Nat)×Value)) (hnd:(l.map Prod.fst).Nodup) (hf:∀ k,getL l k=(d.tab x k).map (fun(id:Nat)=>Value.int .i64 id)):l.length<1000000000:=by
 have hk:∀ k∈l.map Prod.fst,∃ id,d.tab x k=some id:=fun k hk=>by
  cases h:d.tab x k with
  | some id=>exact⟨id,rfl⟩
  | none =>
    have h1:=Zcu (l:=l) (k:=k);rw[hf k,h] at h1;obtain⟨p,hp,rfl⟩:=List.mem_map.1 hk;exact absurd rfl (h1.1 rfl p hp)
 have hinj:(((l.map Prod.fst)).map fun k=>(d.tab x k).getD 0).Nodup:=by
  refine List.pairwise_map.2 (hnd.imp_of_mem ?_);intro a b ha hb hab e;obtain⟨i,hi⟩:=hk a ha;obtain⟨j,hj⟩:=hk b hb;rw[hi,hj] at e;simp only[Option.getD_some] at e;subst e;have e1:=ht a.1 a.2 _ hi;have e2:=ht b.1 b.2 _ hj;rw[e1] at e2;simp only[Option.some.injEq,BN.mk.injEq,true_and] at e2;exact hab (Prod.ext e2.1 e2.2)
 have:=Zhz n _ hinj (fun i hi=>by
  obtain⟨k,hk1,rfl⟩:=List.mem_map.1 hi;obtain⟨id,h1⟩:=hk k hk1;rw[h1];exact hlt _ _ (ht k.1 k.2 _ h1))
 simp at this;omega
end Go.Proofs.YtlgogjbkadckkaaGreat

namespace Go.Proofs.YtlgogjbkadckkaaGreat
open Go.RowKit Go.Shelf
attribute [local go_sem] Oper.semAt_some
theorem Zrz (t:Nat) (w:World):Calls Tryz.prog 170 #[.pointer (some ⟨t,0,none⟩)] w fun e w'=>e=.returned (.func (.func 178) #[] #[.pointer (some ⟨w.heap.size,0,none⟩)])/\w'=w.alloc (.cells #[.pointer (some ⟨t,0,none⟩)] 144):=by
 have hmf:∀ (fn:Fn) (first cap:Array Value) (w:World),(Instr.makeFunc fn first cap).run Tryz.prog w=.ok (.func fn first cap) w:=fun _ _ _ _=>rfl
 go_enter Tryz.func170,Tryz.ntmps170
 go_wp2_with fail;go_ret;exact⟨rfl,rfl⟩
def Zec (d:Zac) (y:Nat) (pre:List ((Nat×Nat)×Nat)):List TN:=(pre.filter (fun p=>Zep d y p.2)).map (fun p=>tnOf d y p.2)
structure TurS (d:Zac) (y:Nat) (w:World) (sb:Nat) (pre:List ((Nat×Nat)×Nat)) (M:Nat->Prop) (W:World) (v:Value) (oG:Own):Prop where
 mm:∀ k,M k↔(k=w.heap.size\/k=w.heap.size+1\/k=w.heap.size+2\/oG k=some .slots)
 low:Below w.heap.size w W
 boxs:W.heap[w.heap.size]?=some (.cells #[.pointer (some ⟨sb,0,none⟩)] 80 (0,0))
 boxy:W.heap[w.heap.size+1]?=some (.cells #[.int .i64 y] 3 (0,0))
 boxg:W.heap[w.heap.size+2]?=some (.cells #[v] 231 (0,0))
 row:RowR oG W .slots 236 9 v (Zec d y pre).length ((Zec d y pre).flatMap tnV)
 lt:Zai oG W
 ge:∀ k r,oG k=some r->r=.slots/\w.heap.size+3<=k
theorem TurS.no {d:Zac} {y:Nat} {w:World} {sb:Nat} {pre:List ((Nat×Nat)×Nat)} {M:Nat->Prop} {W:World} {v:Value} {oG:Own} (h:TurS d y w sb pre M W v oG) (k:Nat) (hk:k<w.heap.size+3):oG k=none:=by
 cases e:oG k with
 | none=>rfl
 | some r=>have:=(h.ge k r e).2;omega
theorem TurS.minds {d:Zac} {y:Nat} {w:World} {sb:Nat} {pre:List ((Nat×Nat)×Nat)} {M:Nat->Prop} {W W':World} {v:Value} {oG:Own} (h:TurS d y w sb pre M W v oG) (hw:Wr (fun k=>w.heap.size<=k/\¬ M k) W W'):TurS d y w sb pre M W' v oG:=by
 have hk:∀ k,k<W.heap.size->M k->W'.heap[k]?=W.heap[k]?:=fun k h1 h2=>hw.keep k h1 (fun e=>e.2 h2)
 have hm:=h.mm
 refine⟨hm,h.low.trans (hw.below (fun k h=>h.1) h.low.size),(hk _ (Array.getElem?_eq_some_iff.1 h.boxs).1 ((hm _).2 (.inl rfl))).trans h.boxs,(hk _ (Array.getElem?_eq_some_iff.1 h.boxy).1 ((hm _).2 (.inr (.inl rfl)))).trans h.boxy,
  (hk _ (Array.getElem?_eq_some_iff.1 h.boxg).1 ((hm _).2 (.inr (.inr (.inl rfl))))).trans h.boxg,h.row.keep (fun g hg=>hk g (h.lt g _ hg) ((hm g).2 (.inr (.inr (.inr hg))))) (fun _ h=>h),h.lt.mono hw.size,h.ge⟩
theorem Yae {d:Zac} {y:Nat} {pre:List ((Nat×Nat)×Nat)} {p:(Nat×Nat)×Nat} (h:Zep d y p.2=false):Zec d y (pre++[p])=Zec d y pre:=by unfold Zec;rw[List.filter_append];simp[h]
theorem Zyo {d:Zac} {y:Nat} {pre:List ((Nat×Nat)×Nat)} {p:(Nat×Nat)×Nat} (h:Zep d y p.2=true):Zec d y (pre++[p])=Zec d y pre++[tnOf d y p.2]:=by unfold Zec;rw[List.filter_append];simp[h]
theorem TurS.skip {d:Zac} {y:Nat} {w:World} {sb:Nat} {pre:List ((Nat×Nat)×Nat)} {M:Nat->Prop} {W:World} {v:Value} {oG:Own} {p:(Nat×Nat)×Nat} (h:TurS d y w sb pre M W v oG) (hp:Zep d y p.2=false):TurS d y w sb (pre++[p]) M W v oG :=
 ⟨h.mm,h.low,h.boxs,h.boxy,h.boxg,by rw[Yae hp];exact h.row,h.lt,h.ge⟩
theorem TurS.add {d:Zac} {y:Nat} {w:World} {sb:Nat} {pre:List ((Nat×Nat)×Nat)} {M:Nat->Prop} {W W1:World} {v v':Value} {oG oG':Own} {p:(Nat×Nat)×Nat} (h:TurS d y w sb pre M W v oG) (hp:Zep d y p.2=true)
 (hr:RowR oG' W1 .slots 236 9 v' ((Zec d y pre).length+1) (((Zec d y pre).flatMap tnV)++tnV (tnOf d y p.2))) (hg:Chg (· = .slots) oG oG' W W1) (hl:Zai oG' W1) {n:Nat} (hn:n<=W.heap.size) :
 ∃ M',(∃ v oG,TurS d y w sb (pre++[p]) M' (W1.setCell ⟨w.heap.size+2,0,none⟩ v') v oG)/\Wr (fun k=>M k\/n<=k) W (W1.setCell ⟨w.heap.size+2,0,none⟩ v')/\∀ k,M' k->M k\/n<=k:=by
 have hb1:w.heap.size+2<W.heap.size:=(Array.getElem?_eq_some_iff.1 h.boxg).1;have k0:=(hg.alien (by omega) (h.no w.heap.size (by omega))).trans h.boxs;have ky:=(hg.alien (by omega) (h.no (w.heap.size+1) (by omega))).trans h.boxy;have k1:=(hg.alien hb1 (h.no (w.heap.size+2) (by omega))).trans h.boxg;have ge':∀ k r,oG' k=some r->r=.slots/\w.heap.size+3<=k:=fun k r hk=>by
  by_cases e:oG' k=oG k
  ·
   rw[e] at hk;exact h.ge k r hk
  ·
   obtain⟨a1,q,a2,a3⟩:=hg.new k e;rw[hk] at a2;cases a2
   exact⟨a3,by omega⟩
 refine⟨fun k=>k=w.heap.size\/k=w.heap.size+1\/k=w.heap.size+2\/oG' k=some .slots,⟨v',oG',⟨fun k=>Iff.rfl,?_,?_,?_,Zae k1 _,?_,hl.mono (by simp[World.setCell]),ge'⟩⟩,?_,fun k hk=>?_⟩
 ·
  have:Below w.heap.size w W1:=h.low.trans ⟨hg.os,hg.tape,hg.output,hg.size,fun k hk=>hg.alien (Nat.lt_of_lt_of_le hk h.low.size) (h.no k (by omega))⟩;exact this.setCell (p:=⟨w.heap.size+2,0,Option.none⟩) (by show _<=w.heap.size+2;omega) _
 ·
  exact(Zad (by show _≠w.heap.size+2;omega) _).trans k0
 ·
  exact(Zad (by show _≠w.heap.size+2;omega) _).trans ky
 ·
  rw[Zyo hp,List.length_append,List.flatMap_append];simp only[List.length_singleton,List.flatMap_cons,List.flatMap_nil,List.append_nil];exact hr.setCell_other (fun e=>by have:=(ge' _ _ e).2;simp at this) _
 ·
  have:Wr (fun k=>M k\/n<=k) W W1:=⟨hg.os,hg.tape,hg.output,hg.size,fun k hk hm=>hg.block k hk fun r hr e=>hm (.inl ((h.mm k).2 (.inr (.inr (.inr (by rw[hr,e]))))))⟩;exact this.setCell (p:=⟨w.heap.size+2,0,Option.none⟩) (.inl (.inl ((h.mm _).2 (.inr (.inr (.inl rfl)))))) _
 ·
  rcases hk with hk|hk|hk|hk
  ·
   exact .inl ((h.mm k).2 (.inl hk))
  ·
   exact .inl ((h.mm k).2 (.inr (.inl hk)))
  ·
   exact .inl ((h.mm k).2 (.inr (.inr (.inl hk))))
  ·
   by_cases e:oG' k=oG k
   ·
    rw[e] at hk;exact .inl ((h.mm k).2 (.inr (.inr (.inr hk))))
   ·
    have:=(hg.new k e).1;right;omega
theorem Ya9 {d:Zac} {x:Nat} (ht:∀ lo hi id,d.tab x (lo,hi)=some id->Zaa d id=some ⟨x,lo,hi⟩) {n:Nat} (hlt:∀ i b,Zaa d i=some b->i<n) {xs:List ((Nat×Nat)×Nat)} (hnd:(xs.map Prod.fst).Nodup) (hf:∀ k id,(k,id)∈xs->d.tab x k=some id):xs.length<=n:=by
 have h1:(xs.map Prod.snd).Nodup:=by
  rw[List.nodup_iff_pairwise_ne,List.pairwise_map];rw[List.nodup_iff_pairwise_ne,List.pairwise_map] at hnd;refine hnd.imp_of_mem fun {a b} ha hb hne e=>hne ?_
  have q1:=ht _ _ _ (hf a.1 a.2 ha);have q2:=ht _ _ _ (hf b.1 b.2 hb);rw[e,q2] at q1;cases a;cases b
  simp at q1;exact Prod.ext q1.1.symm q1.2.symm
 have h2:=Zhz n (xs.map Prod.snd) h1 (fun i hi=>by
  obtain⟨q,hq,rfl⟩:=List.mem_map.1 hi;exact hlt _ _ (ht _ _ _ (hf q.1 q.2 hq)))
 simpa using h2
theorem Zl9:(Tryz.prog.info? 236).map (fun i=>(i.zero,i.size,i.bytes))=some (some (.agg #[.int .i64 0,.int .i64 0,.int .i64 0,.int .i64 0,.int .i64 0,.int .i64 0,.int .i64 0,.int .i64 0,.int .i64 0]),9,72):=by kernel_rfl
theorem Zyh (N:RN) (ll lh hl hh:Nat):tnV ⟨N,ll,lh,hl,hh⟩=[.int .i64 N.id,.int .i64 N.v,.int .i64 N.lo,.int .i64 N.hi,.int .i64 N.refs,.int .i64 ll,.int .i64 lh,.int .i64 hl,.int .i64 hh]:=rfl
theorem Yaf {o:Own} {w:World} {sb:Nat} {d:Zac} {V:Nat->BF} (h:Zaq o w sb d) (hlt:Zai o w) (hk:Zaj d V) (x y:Nat) (hx:x<d.vars.length) :
 Calls Tryz.prog 153 #[.pointer (some ⟨sb,0,none⟩),.int .i64 x,.int .i64 y] w fun e w'=>∃ (v:Value) (ids:List Nat),e=.returned v/\ids.Nodup/\(∀ i,i∈ids↔Turns (Zaa d) x y i)/\TRow w' w.heap.size v (ids.map (tnOf d y))/\Below w.heap.size w w':=by
 obtain⟨s,h⟩:=h;obtain⟨gt,ct,hvt,hct,hvl,hts⟩:=h.tabAt hx;obtain⟨c0,c1,c2,c3,c4,f0⟩:=cells5 h.blk;rw[hvt] at c2;obtain⟨t,ht⟩:∃ t,t=s.ts.getD x 0:=⟨_,rfl⟩;rw[<- ht] at hct;have htab:=h.tab x hvl;rw[<- ht] at htab;have HTAB:=Hd htab;have HST:=Hd h;have HLT:=Hd hlt;have HK:=Hd hk;clear ht htab;have hxi:(x:Int)<s.ts.length:=by omega
 obtain⟨w1,hw1⟩:∃ w1,w1=((w.alloc (.cells #[.pointer (some ⟨sb,0,none⟩)] 80)).alloc (.cells #[.int .i64 y] 3)).alloc (.cells #[.slice none 0 0] 231):=⟨_,rfl⟩;have HW1:Hid (_=w1):=Hd hw1.symm;have hb1:Below w.heap.size w w1:=by rw[hw1];exact((Zaf _ _).alloc (by simp) _).alloc (by simp;omega) _
 have c2':=(hb1.cell (p:=⟨sb,2,none⟩) (Zab c2)).trans c2;have hct':=(hb1.cell (p:=⟨gt,x,none⟩) (Zab hct)).trans hct;have cB:w1.cell? ⟨w.heap.size,0,none⟩=some (.pointer (some ⟨sb,0,none⟩)):=by rw[hw1];exact cell1 ((Below.heap_alloc _ _ _ (by simp;omega)).trans ((Below.heap_alloc _ _ _ (by simp)).trans (heap_alloc_new w _)))
 have HE:=Hd (fun t W=>Zrz t W);clear c0 c1 c2 c3 c4 f0 hct hw1;refine(callsIn_wide (n:=9)).1 ?_;refine callsIn_of_wp_marks Tryz.func153 rfl trivial ?_;refine wpIn_wide.2 ?_;simp only[Tryz.ntmps153,List.size_toArray,List.length_cons,List.length_nil,Nat.reduceAdd,Nat.reduceSub,Array.replicate_succ,Array.replicate_zero,List.push_toArray,List.append_toArray,List.nil_append,List.cons_append];go_upto_region 2 with fail;rw[HW1.out];go_wp2_with fail;refine(HE.out _ _).mono ?_;rintro e w2 ⟨rfl,hw2⟩;go_wp2_with fail;obtain⟨w2',hw2'⟩:∃ w2',w2'=w1.alloc (.cells #[.pointer (some ⟨t,0,none⟩)] 144):=⟨_,rfl⟩;rw[<- hw2'];have hb2:Below w.heap.size w w2':=by rw[hw2'];exact hb1.alloc hb1.size _
 have hs1:w1.heap.size=w.heap.size+3:=by rw[<- HW1.out];simp
 have hs2:w2'.heap.size=w.heap.size+4:=by rw[hw2'];simp[hs1]
 have hBs:w2'.heap[w.heap.size]?=some (.cells #[.pointer (some ⟨sb,0,none⟩)] 80 (0,0)):=by rw[hw2',<- HW1.out];exact(Below.heap_alloc _ _ _ (by simp<;>omega)).trans ((Below.heap_alloc _ _ _ (by simp<;>omega)).trans ((Below.heap_alloc _ _ _ (by simp)).trans (heap_alloc_new w _)))
 have hBy:w2'.heap[w.heap.size+1]?=some (.cells #[.int .i64 y] 3 (0,0)):=by
  rw[hw2',<- HW1.out];have h0:=heap_alloc_new (w.alloc (.cells #[.pointer (some ⟨sb,0,none⟩)] 80)) (.cells #[.int .i64 y] 3);rw[World.size_alloc] at h0;exact(Below.heap_alloc _ _ _ (by simp<;>omega)).trans ((Below.heap_alloc _ _ _ (by simp)).trans h0)
 have hBg:w2'.heap[w.heap.size+2]?=some (.cells #[.slice none 0 0] 231 (0,0)):=by
  rw[hw2',<- HW1.out];have h0:=heap_alloc_new ((w.alloc (.cells #[.pointer (some ⟨sb,0,none⟩)] 80)).alloc (.cells #[.int .i64 y] 3)) (.cells #[.slice none 0 0] 231);rw[World.size_alloc,World.size_alloc] at h0;exact(Below.heap_alloc _ _ _ (by simp)).trans h0
 have hBt:w2'.cell? ⟨w1.heap.size,0,none⟩=some (.pointer (some ⟨t,0,none⟩)):=by rw[hw2'];exact cell1 (heap_alloc_new w1 _)
 have hcard:=Yab (d:=d) (x:=x) (fun lo hi id e=>(HK.out.tab x hx lo hi id).1 e) (n:=1048577) (fun i b e=>by have:=HST.out.tk_lt e;omega) (by omega);have HG:=Hd (Zlt 8 w.heap.size w1.heap.size t x HTAB.out HLT.out (Nat.le_refl _) w2' hb2 (by omega) (by omega) hBt hcard);clear hcard hBt hw2' hw2 c2' hct' cB HE hts hb1;refine(wpIn_wide (n:=9)).1 ?_;refine Zyu rfl (by omega) (gf:=178) (lb:=#[.pointer (some ⟨w1.heap.size,0,none⟩)]) rfl trivial (enters_of Tryz.func178 (by kernel_rfl) rfl) HG.out (by omega) (by rintro k rfl;omega) (fun p=>rfl)
  (fun pre M W=>∃ v oG,TurS d y w sb pre M W v oG) ?_ ?_ (fun k=>k=w.heap.size\/k=w.heap.size+1\/k=w.heap.size+2) (by rintro k rfl h;omega) ⟨.slice none 0 0,fun _=>none,(⟨fun k=>by simp,hb2,hBs,hBy,hBg,RowR.nil _ _ _ _ _,fun k r h=>(by cases h),fun k r h=>(by cases h)⟩:TurS d y w sb [] _ w2' (.slice none 0 0) (fun _=>none))⟩
  (fun p a' W W1=>a'={ tmps:=#[Value.pointer (some { block:=sb,off:=0 }),Value.int IntKind.i64 ↑x,Value.int IntKind.i64 ↑y,Value.pointer (some { block:=w.heap.size,off:=0 }),undef,Value.pointer (some { block:=w.heap.size+1,off:=0 }),Value.slice none 0 0,Value.pointer (some { block:=w.heap.size+1+1,off:=0 }),undef,Value.int IntKind.i64 ↑p.2,undef,undef,undef,Value.pointer (some { block:=sb,off:=0 }),Value.pointer (some { block:=sb,off:=0 }),Value.pointer (some { block:=sb,off:=2 }),Value.slice (some { block:=gt,off:=0 }) s.ts.length ct,Value.int IntKind.i64 ↑x,Value.pointer (some { block:=gt,off:=x }),Value.pointer (some { block:=t,off:=0 }),Value.func (Fn.func 178) #[] #[Value.pointer (some { block:=w.heap.size+3,off:=0 })],encE p.1,Value.int IntKind.i64 ↑p.2,undef,undef,undef,undef,undef,undef,undef,undef,undef,undef,undef,undef,undef,undef,undef,undef,undef,undef,undef,undef,undef,undef,undef,undef,undef,undef,undef,undef,undef,undef,undef,undef,undef,undef,undef,undef,undef,undef,undef,undef,undef,undef,undef,undef,undef,undef,undef,undef],defers:=[] }) ?_ ?_ ?_ ?_
 ·
  rintro pre M W ⟨v,oG,hS⟩ k hk;rcases(hS.mm k).1 hk with rfl|rfl|rfl|hg
  ·
   exact⟨Nat.le_refl _,(Array.getElem?_eq_some_iff.1 hS.boxs).1⟩
  ·
   exact⟨by omega,(Array.getElem?_eq_some_iff.1 hS.boxy).1⟩
  ·
   exact⟨by omega,(Array.getElem?_eq_some_iff.1 hS.boxg).1⟩
  ·
   have:=(hS.ge k _ hg).2;exact⟨by omega,hS.lt k _ hg⟩
 ·
  rintro pre M W W' ⟨v,oG,hS⟩ hw;exact⟨v,oG,hS.minds hw⟩
 ·
  intro p a' W W1 W2 l _ h _;exact h
 ·
  intro l pre p M W K hI hK
  gi_wp2
  exact hK _ _ (Wr.refl _ _) rfl
 ·
  rintro l pre p a' M W0 W ⟨v,oG,hS⟩ rfl hs0 hs3 ⟨suf,hnd,hgood⟩;have hlenx:=Ya9 (d:=d) (x:=x) (fun lo hi id e=>(HK.out.tab x hx lo hi id).1 e) (n:=1048577) (fun i b e=>by have:=HST.out.tk_lt e;omega) hnd (fun k id h=>(hgood k id).1 h);have hlent:(Zec d y pre).length<1000000000:=by
   have h1:(Zec d y pre).length<=pre.length:=by unfold Zec;rw[List.length_map];exact List.length_filter_le _ _
   simp at hlenx;omega
  have HLEN:=Hd hlent;clear hlenx hlent hnd;have hp:d.tab x p.1=some p.2:=(hgood p.1 p.2).1 (by simp);obtain⟨i,hi⟩:∃ i,i=p.2:=⟨_,rfl⟩;have hni:Zaa d i=some ⟨x,p.1.1,p.1.2⟩:=(HK.out.tab x hx _ _ _).1 (by rw[hi];exact hp);obtain⟨htk,hhas,hbn⟩:=Zav hni;rw[hhas] at hbn;obtain⟨N,hN⟩:∃ N,N=d.pool.nd i:=⟨_,rfl⟩;have hst:=HST.out.below HLT.out hS.low;have hltW:=HLT.out.mono hS.low.size;obtain⟨q0,q1,q2,q3,q4,_⟩:=cells5 hst.blk;have cs:=cell1 hS.boxs;have cy:=cell1 hS.boxy;have HAT:=Hd (Zmk o s.pb d.pool i W hst.pool hltW htk);rw[<- hN] at HAT hbn;rw[<- hi];have HI:=Hd hi;have HS:=Hd hS;have HN:=Hd hN;have HBN:=Hd hbn;have HNI:=Hd hni;clear hS hi hN hbn hni hst hltW htk hhas hp hgood q0 q2 q3 q4
  gi_wp2
  refine⟨trivial,(CallsIn.inRound l (callsIn_wide.2 HAT.out)).mono ?_⟩;rintro e W3 ⟨rfl,hb3⟩;have cs3:=(hb3.cell (p:=⟨w.heap.size,0,none⟩) (Zab cs)).trans cs;have cy3:=(hb3.cell (p:=⟨w.heap.size+1,0,none⟩) (Zab cy)).trans cy;simp only[Zau];have lb0:w.heap.size<W3.heap.size:=Zab cs3;have lb1:w.heap.size+1<W3.heap.size:=Zab cy3;have lb2:w.heap.size+1+1<W3.heap.size:=Nat.lt_of_lt_of_le (Array.getElem?_eq_some_iff.1 HS.out.boxg).1 hb3.size;have HB3:=Hd hb3;clear hb3 cs cy q1
  gi_wp2
  obtain⟨W4,hW4⟩:∃ W4,W4=(W3.alloc (.cells #[.int .i64 N.id,.int .i64 N.v,.int .i64 N.lo,.int .i64 N.hi,.int .i64 N.refs] 65)).alloc (.cells #[.int .i64 N.id,.int .i64 N.v,.int .i64 N.lo,.int .i64 N.hi,.int .i64 N.refs,.int .i64 0,.int .i64 0,.int .i64 0,.int .i64 0] 236):=⟨_,rfl⟩;rw[<- hW4];have n4:W4.heap[W3.heap.size]?=some (.cells #[.int .i64 N.id,.int .i64 N.v,.int .i64 N.lo,.int .i64 N.hi,.int .i64 N.refs] 65 (0,0)):=by rw[hW4];exact(Below.heap_alloc _ _ _ (by simp)).trans (heap_alloc_new W3 _)
  have t4:W4.heap[W3.heap.size+1]?=some (.cells #[.int .i64 N.id,.int .i64 N.v,.int .i64 N.lo,.int .i64 N.hi,.int .i64 N.refs,.int .i64 0,.int .i64 0,.int .i64 0,.int .i64 0] 236 (0,0)):=by
   rw[hW4];have:=heap_alloc_new (W3.alloc (.cells #[.int .i64 N.id,.int .i64 N.v,.int .i64 N.lo,.int .i64 N.hi,.int .i64 N.refs] 65)) (.cells #[.int .i64 N.id,.int .i64 N.v,.int .i64 N.lo,.int .i64 N.hi,.int .i64 N.refs,.int .i64 0,.int .i64 0,.int .i64 0,.int .i64 0] 236);rw[World.size_alloc] at this;exact this
  have HWR4:Hid (Wr (fun _=>False) W W4):=by rw[hW4];exact Hd (((Wr.of_below HB3.out (fun _=>False)).alloc _).alloc _)
  have hsz3:W.heap.size<=W3.heap.size:=HB3.out.size;have hb34:Below W3.heap.size W3 W4:=by rw[hW4];exact(Zaf _ _).alloc (by simp) _
  obtain⟨b1,hb1'⟩:∃ b1,b1=W3.heap.size:=⟨_,rfl⟩;have cs4:=(hb34.cell (p:=⟨w.heap.size,0,none⟩) lb0).trans cs3;have cy4:=(hb34.cell (p:=⟨w.heap.size+1,0,none⟩) lb1).trans cy3;have HMIN:Hid (∀ Wc,Wr (fun _=>False) W Wc->TurS d y w sb pre M Wc v oG):=Hd fun Wc h=>HS.out.minds (h.mono fun k e=>e.elim)
  have HSTO:Hid (∀ Wc,Wr (fun _=>False) W Wc->Zaq o Wc sb d/\Zai o Wc):=Hd fun Wc h=>⟨⟨s,HST.out.below HLT.out (HMIN.out Wc h).low⟩,HLT.out.mono (HMIN.out Wc h).low.size⟩
  have hokN:okE (Zaa d) N.lo/\okE (Zaa d) N.hi:=by
   have e:=HBN.out;have h1:=HK.out.dag.okLo _ _ HNI.out;have h2:=HK.out.dag.okHi _ _ HNI.out;have e1:p.1.1=N.lo:=by have:=congrArg BN.lo e;exact this.symm
   have e2:p.1.2=N.hi:=by have:=congrArg BN.hi e;exact this.symm
   dsimp only at h1 h2;rw[e1] at h1;rw[e2] at h2;exact⟨h1,h2⟩
  have HOKN:=Hd hokN;obtain⟨⟨ll,lh⟩,hc1⟩:∃ c,c=cofs d N.lo y:=⟨_,rfl⟩;obtain⟨⟨hl,hh⟩,hc2⟩:∃ c,c=cofs d N.hi y:=⟨_,rfl⟩;have HSP1:=Hd (Zg4 (HSTO.out W4 HWR4.out).1 (HSTO.out W4 HWR4.out).2 HK.out N.lo hokN.1 y);rw[<- hc1] at HSP1;have HC1:=Hd hc1;have HC2:=Hd hc2;rw[<- hb1'] at n4 t4 hsz3 ⊢;clear hW4 cs3 cy3 hokN hc1 hc2 hb34 HB3 hb1' lb0 lb1 lb2;refine⟨trivial,(CallsIn.inRound l (callsIn_wide.2 HSP1.out)).mono ?_⟩;rintro e W5 ⟨rfl,hb5⟩;have lW4:b1+1<W4.heap.size:=(Array.getElem?_eq_some_iff.1 t4).1;have cs5:=(hb5.cell (p:=⟨w.heap.size,0,none⟩) (Zab cs4)).trans cs4;have cy5:=(hb5.cell (p:=⟨w.heap.size+1,0,none⟩) (Zab cy4)).trans cy4;have n5:=(hb5.block b1 (by omega)).trans n4;have t5:=(hb5.block (b1+1) lW4).trans t4;have HWR5:Hid (Wr (fun _=>False) W W5):=Hd (HWR4.out.trans (Wr.of_below hb5 (fun _=>False)) (fun _ _ e=>e) (fun _ _ e=>e));have f5:∀ q,W5.frozen? ⟨b1+1,q,none⟩=false:=fun q=>by simp[World.frozen?,t5]
  have k5:W5.cell? ⟨b1+1,5,none⟩=some (.int .i64 0):=by rw[cell_of_row _ _ 5 _ _ _ t5];rfl
  have k6:W5.cell? ⟨b1+1,6,none⟩=some (.int .i64 0):=by rw[cell_of_row _ _ 6 _ _ _ t5];rfl
  have m3:W5.cell? ⟨b1,3,none⟩=some (.int .i64 N.hi):=by rw[cell_of_row _ _ 3 _ _ _ n5];rfl
  have lW5:b1+1<W5.heap.size:=(Array.getElem?_eq_some_iff.1 t5).1;clear hb5 cs4 cy4 n4 t4 HSP1 lW4
  gi_wp2
  obtain⟨W6,hW6⟩:∃ W6,W6=(W5.setCell ⟨b1+1,5,none⟩ (.int .i64 (ll:Nat))).setCell ⟨b1+1,6,none⟩ (.int .i64 (lh:Nat)):=⟨_,rfl⟩;rw[<- hW6];have t6:W6.heap[b1+1]?=some (.cells #[.int .i64 N.id,.int .i64 N.v,.int .i64 N.lo,.int .i64 N.hi,.int .i64 N.refs,.int .i64 (ll:Nat),.int .i64 (lh:Nat),.int .i64 0,.int .i64 0] 236 (0,0)):=by
   rw[hW6];exact Zae (k:=6) (Zae (k:=5) t5 (.int .i64 (ll:Nat))) (.int .i64 (lh:Nat))
  have HWR6:Hid (Wr (fun _=>False) W W6):=by rw[hW6];exact Hd ((HWR5.out.setCell (p:=⟨b1+1,5,none⟩) (.inr (by show W.heap.size<=b1+1;omega)) _).setCell (p:=⟨b1+1,6,none⟩) (.inr (by show W.heap.size<=b1+1;omega)) _)
  have hlow6:=(HMIN.out W6 HWR6.out);have cs6:=cell1 hlow6.boxs;have cy6:=cell1 hlow6.boxy;have HSP2:=Hd (Zg4 (HSTO.out W6 HWR6.out).1 (HSTO.out W6 HWR6.out).2 HK.out N.hi HOKN.out.2 y);rw[<- HC2.out] at HSP2;clear hW6 cs5 cy5 n5 t5 f5 k5 k6 m3 lW5 hlow6;refine⟨trivial,(CallsIn.inRound l (callsIn_wide.2 HSP2.out)).mono ?_⟩;rintro e W7 ⟨rfl,hb7⟩;have lW6:b1+1<W6.heap.size:=(Array.getElem?_eq_some_iff.1 t6).1;have t7:=(hb7.block (b1+1) lW6).trans t6;have HWR7:Hid (Wr (fun _=>False) W W7):=Hd (HWR6.out.trans (Wr.of_below hb7 (fun _=>False)) (fun _ _ e=>e) (fun _ _ e=>e));have f7:∀ q,W7.frozen? ⟨b1+1,q,none⟩=false:=fun q=>by simp[World.frozen?,t7]
  have k5:W7.cell? ⟨b1+1,5,none⟩=some (.int .i64 (ll:Nat)):=by rw[cell_of_row _ _ 5 _ _ _ t7];rfl
  have k6:W7.cell? ⟨b1+1,6,none⟩=some (.int .i64 (lh:Nat)):=by rw[cell_of_row _ _ 6 _ _ _ t7];rfl
  have k7:W7.cell? ⟨b1+1,7,none⟩=some (.int .i64 0):=by rw[cell_of_row _ _ 7 _ _ _ t7];rfl
  have k8:W7.cell? ⟨b1+1,8,none⟩=some (.int .i64 0):=by rw[cell_of_row _ _ 8 _ _ _ t7];rfl
  have lW7:b1+1<W7.heap.size:=(Array.getElem?_eq_some_iff.1 t7).1;clear hb7 cs6 cy6 t6 HSP2 lW6;obtain⟨W8,hW8⟩:∃ W8,W8=(W7.setCell ⟨b1+1,7,none⟩ (.int .i64 (hl:Nat))).setCell ⟨b1+1,8,none⟩ (.int .i64 (hh:Nat)):=⟨_,rfl⟩;have t8:W8.heap[b1+1]?=some (.cells #[.int .i64 N.id,.int .i64 N.v,.int .i64 N.lo,.int .i64 N.hi,.int .i64 N.refs,.int .i64 (ll:Nat),.int .i64 (lh:Nat),.int .i64 (hl:Nat),.int .i64 (hh:Nat)] 236 (0,0)):=by
   rw[hW8];exact Zae (k:=8) (Zae (k:=7) t7 (.int .i64 (hl:Nat))) (.int .i64 (hh:Nat))
  have HWR8:Hid (Wr (fun _=>False) W W8):=by rw[hW8];exact Hd ((HWR7.out.setCell (p:=⟨b1+1,7,none⟩) (.inr (by show W.heap.size<=b1+1;omega)) _).setCell (p:=⟨b1+1,8,none⟩) (.inr (by show W.heap.size<=b1+1;omega)) _)
  have HT8:=Hd (HMIN.out W8 HWR8.out);have g8:=cell1 HT8.out.boxg;have r0:W8.cell? ⟨b1+1,0,none⟩=some (.int .i64 N.id):=by rw[cell_of_row _ _ 0 _ _ _ t8];rfl
  have r1:W8.cell? ⟨b1+1,1,none⟩=some (.int .i64 N.v):=by rw[cell_of_row _ _ 1 _ _ _ t8];rfl
  have r2:W8.cell? ⟨b1+1,2,none⟩=some (.int .i64 N.lo):=by rw[cell_of_row _ _ 2 _ _ _ t8];rfl
  have r3:W8.cell? ⟨b1+1,3,none⟩=some (.int .i64 N.hi):=by rw[cell_of_row _ _ 3 _ _ _ t8];rfl
  have r4:W8.cell? ⟨b1+1,4,none⟩=some (.int .i64 N.refs):=by rw[cell_of_row _ _ 4 _ _ _ t8];rfl
  have r5:W8.cell? ⟨b1+1,5,none⟩=some (.int .i64 (ll:Nat)):=by rw[cell_of_row _ _ 5 _ _ _ t8];rfl
  have r6:W8.cell? ⟨b1+1,6,none⟩=some (.int .i64 (lh:Nat)):=by rw[cell_of_row _ _ 6 _ _ _ t8];rfl
  have r7:W8.cell? ⟨b1+1,7,none⟩=some (.int .i64 (hl:Nat)):=by rw[cell_of_row _ _ 7 _ _ _ t8];rfl
  have r8:W8.cell? ⟨b1+1,8,none⟩=some (.int .i64 (hh:Nat)):=by rw[cell_of_row _ _ 8 _ _ _ t8];rfl
  have HW8:Hid (_=W8):=Hd hW8.symm;have HB8:Hid (b1+1<W8.heap.size):=Hd (Array.getElem?_eq_some_iff.1 t8).1;clear hW8 t8;have tin:tnOf d y i=⟨N,ll,lh,hl,hh⟩:=by
   unfold tnOf;rw[<- HN.out,<- HC1.out,<- HC2.out]
  have HTIN:=Hd tin;clear tin
  gi_upto_region 8 with fail
  rw[HW8.out];clear t7 f7 k5 k6 k7 k8 lW7
  by_cases hturn:ll≠lh\/hl≠hh
  ·
   have HTB:Hid (Zep d y p.2=true):=Hd (by rw[<- HI.out];unfold Zep;rw[HTIN.out];exact decide_eq_true hturn);have n1:((ll:Int) != lh)=true\/((ll:Int) != lh)=false:=by cases ((ll:Int) != lh)<;>simp
   have n2:((ll:Int) != lh)=false->((hl:Int) != hh)=true:=fun e=>by
    have h1':(ll:Int)=lh:=by simpa using e
    have h1:ll=lh:=by omega
    have h2:=hturn.resolve_left (fun h=>h h1);simp;omega
   rcases n1 with n1|n1
   ·
    clear n2
    gi_wp2_with (gi_at_builtin
                 refine Zed (wr:=W8) 231 236 9 72 _ Tryz.underlying231 Zl9 rfl (by decide) rfl _ _ rfl rfl rfl rfl rfl rfl (by simp[Value.oneCell']) HT8.out.row HT8.out.lt HLEN.out (by decide) ?_;intro g1 k1 w1 o1 hr1 hc1 hl1;have HR1:=Hd hr1;have HC1':=Hd hc1;have HL1:=Hd hl1;clear hr1 hc1 hl1;have hbg1:=(HC1'.out.alien (Array.getElem?_eq_some_iff.1 HT8.out.boxg).1 (HT8.out.no _ (by omega))).trans HT8.out.boxg;have cg1:=cell1 hbg1;have fz:∀ k,w1.frozen? ⟨w.heap.size+2,k,none⟩=false:=fun k=>by simp[World.frozen?,hbg1]
                 clear g8 hbg1)
    obtain⟨M',a1,a2,a3⟩:=HT8.out.add HTB.out (W1:=w1) (v':=.slice (some ⟨g1,0,none⟩) ((Zec d y pre).length+1) k1) (by
     rw[<- HI.out,HTIN.out,Zyh];exact HR1.out) HC1'.out HL1.out (n:=W0.heap.size) (Nat.le_trans hs0 HWR8.out.size)
    exact⟨M',a1,Wr.trans HWR8.out a2 (fun _ _ e=>e.elim) (fun _ _ e=>e),a3⟩
   ·
    have n3:=n2 n1;clear n2
    gi_wp2_with (gi_at_builtin
                 refine Zed (wr:=W8) 231 236 9 72 _ Tryz.underlying231 Zl9 rfl (by decide) rfl _ _ rfl rfl rfl rfl rfl rfl (by simp[Value.oneCell']) HT8.out.row HT8.out.lt HLEN.out (by decide) ?_;intro g1 k1 w1 o1 hr1 hc1 hl1;have HR1:=Hd hr1;have HC1':=Hd hc1;have HL1:=Hd hl1;clear hr1 hc1 hl1;have hbg1:=(HC1'.out.alien (Array.getElem?_eq_some_iff.1 HT8.out.boxg).1 (HT8.out.no _ (by omega))).trans HT8.out.boxg;have cg1:=cell1 hbg1;have fz:∀ k,w1.frozen? ⟨w.heap.size+2,k,none⟩=false:=fun k=>by simp[World.frozen?,hbg1]
                 clear g8 hbg1)
    obtain⟨M',a1,a2,a3⟩:=HT8.out.add HTB.out (W1:=w1) (v':=.slice (some ⟨g1,0,none⟩) ((Zec d y pre).length+1) k1) (by
     rw[<- HI.out,HTIN.out,Zyh];exact HR1.out) HC1'.out HL1.out (n:=W0.heap.size) (Nat.le_trans hs0 HWR8.out.size)
    exact⟨M',a1,Wr.trans HWR8.out a2 (fun _ _ e=>e.elim) (fun _ _ e=>e),a3⟩
  ·
   have HTB:Hid (Zep d y p.2=false):=Hd (by rw[<- HI.out];unfold Zep;rw[HTIN.out];exact decide_eq_false hturn);have n1:((ll:Int) != lh)=false:=by
    have:ll=lh:=Decidable.byContradiction fun h=>hturn (.inl h)
    simp[this]
   have n2:((hl:Int) != hh)=false:=by
    have:hl=hh:=Decidable.byContradiction fun h=>hturn (.inr h)
    simp[this]
   clear hturn
   gi_wp2
   exact⟨M,⟨v,oG,HT8.out.skip HTB.out⟩,HWR8.out.mono (fun _ e=>e.elim),fun k hk=>.inl hk⟩
 ·
  rintro xs D M W ⟨hnd,hgood⟩ hD hMD ⟨v,oG,hS⟩ hM hw hdef;have g9:=cell1 hS.boxg;have HS:=Hd hS;have HND:=Hd hnd;have HGOOD:=Hd hgood;have hlow:=hS.low;have hlDW:D<W.heap.size:=(Array.getElem?_eq_some_iff.1 hdef).1;have HDEF:=Hd hdef;have HMD:=Hd hMD;have HF:Hid (∃ (v':Value) (ids:List Nat),Ending.returned v=.returned v'/\ids.Nodup/\(∀ i,i∈ids↔Turns (Zaa d) x y i)/\TRow (W.putObj D (.deferred none)) w.heap.size v' (ids.map (tnOf d y))/\Below w.heap.size w (W.putObj D (.deferred none))):=by
   refine Hd ⟨v,(xs.filter fun p=>Zep d y p.2).map Prod.snd,rfl,?_,fun i=>?_,?_,?_⟩
   ·
    rw[List.nodup_iff_pairwise_ne,List.pairwise_map];have h1:=hnd;rw[List.nodup_iff_pairwise_ne,List.pairwise_map] at h1;refine(h1.sublist List.filter_sublist).imp_of_mem fun {a b} ha hb hne e=>hne ?_
    have q1:=(HK.out.tab x hx a.1.1 a.1.2 a.2).1 ((hgood a.1 a.2).1 ((List.mem_filter.1 ha).1));have q2:=(HK.out.tab x hx b.1.1 b.1.2 b.2).1 ((hgood b.1 b.2).1 ((List.mem_filter.1 hb).1));rw[e,q2] at q1;obtain⟨⟨a1,a2⟩,a3⟩:=a;obtain⟨⟨b1,b2⟩,b3⟩:=b;simp at q1;exact Prod.ext q1.1.symm q1.2.symm
   ·
    rw[List.mem_map];constructor
    ·
     rintro⟨q,hq,rfl⟩;obtain⟨hq1,hq2⟩:=List.mem_filter.1 hq;have hn:=(HK.out.tab x hx q.1.1 q.1.2 q.2).1 ((hgood q.1 q.2).1 hq1);exact(Ziw HK.out hn rfl).1 hq2
    ·
     intro hT;obtain⟨b,hb,hbx,_⟩:=id hT;have ht:=(HK.out.tab x hx b.lo b.hi i).2 (by rw[hb,<- hbx]);exact⟨((b.lo,b.hi),i),List.mem_filter.2 ⟨(hgood _ _).2 ht,(Ziw HK.out hb hbx).2 hT⟩,rfl⟩
   ·
    have e':((xs.filter fun p=>Zep d y p.2).map Prod.snd).map (tnOf d y)=Zec d y xs:=by unfold Zec;rw[List.map_map];rfl
    rw[e'];have hxl:=Ya9 (d:=d) (x:=x) (fun lo hi id e=>(HK.out.tab x hx lo hi id).1 e) (n:=1048577) (fun i b e=>by have:=HST.out.tk_lt e;omega) hnd (fun k id h=>(hgood k id).1 h);have hlt2:(Zec d y xs).length<=1048578:=by
     have h1:(Zec d y xs).length<=xs.length:=by unfold Zec;rw[List.length_map];exact List.length_filter_le _ _
     omega
    obtain⟨ag,cpg,rfl,_⟩:=hS.row.slice;refine⟨hlt2,ag,cpg,rfl,fun k hk=>?_⟩;obtain⟨g,cp,he,hog,_⟩:=hS.row.shape (by omega);cases he;have hgD:g≠D:=fun e=>hMD ((hS.mm D).2 (.inr (.inr (.inr (e ▸ hog)))))
    refine⟨g,rfl,by have:=(hS.ge g _ hog).2;omega,fun j u hj=>?_⟩;have h9:j<9:=by have:=(List.getElem?_eq_some_iff.1 hj).1;simpa [tnV,rnV] using this
    have hf:=Zfe tnV 9 (fun _=>rfl) (Zec d y xs) k j _ (List.getElem?_eq_getElem hk) h9;have hlen:((Zec d y xs).flatMap tnV).length=(Zec d y xs).length*9:=Za6 _ 9 (fun _=>rfl) _;have hc:=hS.row.cell (k*9+j) (by rw[hlen];omega);have hc2:W.cell? ⟨g,k*9+j,none⟩=some u:=hc.trans (hf.trans hj);exact(World.cell?_of_block (w:=W) (a:=⟨g,k*9+j,none⟩) (World.putObj_heap_other hgD)).trans hc2
   ·
    exact⟨hlow.os,hlow.tape,hlow.output,by simpa using hlow.size,fun q hq=>(World.putObj_heap_other (by omega)).trans (hlow.block q hq)⟩
  clear hS hnd hgood hdef hM hw hMD hlow;go_wp2_with fail;refine⟨by simp,.inl ⟨D,_,rfl,run_takeDeferred HDEF.out,?_⟩⟩;refine⟨_,results_tmp rfl _ _ _,?_⟩;exact HF.out
open Go.RowKit
structure SwV (d0:Zac) (k x y:Nat):Prop where
 k1:k+1<d0.vars.length
 x:d0.vars.getD k 0=x
 y:d0.vars.getD (k+1) 0=y
section
variable {d0 d d':Zac} {V0 V:Nat->BF} {k x y:Nat} {Wt:List (Nat×Nat)} {gone:Nat->Prop}
theorem SwV.facts (s:SwV d0 k x y) (hk:Zaj d0 V0):x<d0.vars.length/\y<d0.vars.length/\levN d0 x=k/\levN d0 y=k+1/\x≠y:=by
 obtain⟨a1,a2⟩:=hk.vlt k (by have:=s.k1;omega);obtain⟨c1,c2⟩:=hk.vlt (k+1) s.k1;rw[s.x] at a1 a2;rw[s.y] at c1 c2;exact⟨a1,c1,a2,c2,by rintro rfl;omega⟩
structure CutS (d0:Zac) (k x:Nat) (gone:Nat->Prop) (d:Zac):Prop where
 vars:d.vars=(Zex d0 k).vars
 level:d.level=(Zex d0 k).level
 pool:d.pool=d0.pool
 counts:d.counts=d0.counts
 dead:d.dead=d0.dead
 tabO:∀ v,v≠x->d.tab v=d0.tab v
 tabX:∀ lo hi id,d.tab x (lo,hi)=some id↔d0.tab x (lo,hi)=some id/\¬ gone id
theorem CutS.start (d0:Zac) (k x:Nat):CutS d0 k x (fun _=>False) (Zex d0 k):=⟨rfl,rfl,rfl,rfl,rfl,fun _ _=>rfl,fun lo hi id=>by simp[Zex]⟩
theorem CutS.next (c:CutS d0 k x gone d) (hk:Zaj d0 V0) (hx:x<d0.vars.length) {i lo hi:Nat} (hti:d0.tab x (lo,hi)=some i):CutS d0 k x (fun j=>gone j\/j=i) { d with tab:=fun u=>if u=x then putF (d.tab u) (lo,hi) none else d.tab u }:=by
 refine⟨c.vars,c.level,c.pool,c.counts,c.dead,fun v hv=>by dsimp only;rw[if_neg hv];exact c.tabO v hv,fun lo' hi' id=>?_⟩;dsimp only;rw[if_pos rfl];unfold putF
 by_cases e:(lo',hi')=(lo,hi)
 ·
  cases e;rw[if_pos rfl,hti];constructor
  ·
   intro h;cases h
  ·
   rintro⟨h1,h2⟩;cases h1;exact(h2 (.inr rfl)).elim
 ·
  rw[if_neg e,c.tabX];constructor
  ·
   rintro⟨h1,h2⟩;refine⟨h1,fun h3=>?_⟩;rcases h3 with h3|h3
   ·
    exact h2 h3
   ·
    subst h3;have q1:=(hk.tab x hx _ _ _).1 h1;have q2:=(hk.tab x hx _ _ _).1 hti;rw[q1] at q2;cases q2;exact e rfl
  ·
   rintro⟨h1,h2⟩;exact⟨h1,fun h3=>h2 (.inl h3)⟩
theorem CutS.has (c:CutS d0 k x gone d) {i lo hi:Nat} (h:d0.tab x (lo,hi)=some i) (hg:¬ gone i):d.tab x (lo,hi)=some i:=(c.tabX _ _ _).2 ⟨h,hg⟩
theorem Zbj.start (c:CutS d0 k x gone d) (hk:Zaj d0 V0) (hx:x<d0.vars.length) (hd:d0.dead=0) (hg:∀ i,Turns (Zaa d0) x y i↔gone i) {ps:List (Nat×Nat)} (hw:Zfw (d0.tab x) ps Wt):Zbj d0 V0 k x y Wt (Zat d0) (fun _=>False) d V0:=by
 have hn:Zaa d=Zaa d0:=by unfold Zaa;rw[c.pool]
 have he:Zat d=Zat d0:=by unfold Zat;rw[c.pool]
 have hc:Zas d=Zas d0:=by unfold Zas;rw[c.counts]
 refine⟨by rw[hn];exact Ze0.start hk.dag x y,c.vars,c.level,by rw[c.pool],he,⟨by rw[hn,hc,c.pool];exact hk.live.cnt,by rw[hn,hc,c.pool,c.dead];exact hk.live.dead,by rw[hn,c.counts];exact hk.live.has⟩,
  fun v hv hvx lo hi id=>by rw[c.tabO v hvx,hn];exact hk.tab v hv lo hi id,fun lo hi id=>by rw[c.tabX,hn,hk.tab x hx,hg],by rw[c.counts];exact hk.clen,fun i hT=>?_,?_⟩
 ·
  obtain⟨b,hb,_⟩:=hT;rw[hc];exact Zjp hk.live hd hb
 ·
  rw[c.pool];have:(Wt.filter fun κ=>(d.tab x κ).isSome)=[]:=by
   rw[List.filter_eq_nil_iff];intro κ hκ;cases e:d.tab x κ with
   | none=>simp
   | some id =>
     have h1:=((c.tabX κ.1 κ.2 id).1 e).1;have h2:=hw.free κ hκ;rw[h1] at h2;cases h2
  rw[this];rfl
theorem Zbj.congr {E:Nat->Int} {done done':Nat->Prop} (m:Zbj d0 V0 k x y Wt E done d V) (h:∀ i,done i↔done' i):Zbj d0 V0 k x y Wt E done' d V:=by
 have e:done=done':=funext fun i=>propext (h i)
 rw[<- e];exact m
theorem Zyd (s:SwV d0 k x y) (hk:Zaj d0 V0) (hl:d0.level.length=d0.vars.length) (v:Nat):(Zex d0 k).level.getD v 0=Ze9 (levN d0) x y v:=by
 obtain⟨hx,hy,lx,ly,hxy⟩:=s.facts hk;unfold Zex Ze9 levN;dsimp only;rw[s.x,s.y];unfold levN at lx ly;rw[lx,ly];simp only[List.getD,List.getElem?_set,List.length_set]
 by_cases e1:v=x
 ·
  subst e1;rw[if_neg (Ne.symm hxy),if_pos rfl,if_pos (by omega),if_pos rfl];rfl
 ·
  by_cases e2:v=y
  ·
   subst e2;rw[if_pos rfl,if_pos (by omega),if_neg e1,if_pos rfl];rfl
  ·
   rw[if_neg (Ne.symm e2),if_neg (Ne.symm e1),if_neg e1,if_neg e2]
theorem Zmp (s:SwV d0 k x y) (i:Nat):(Zex d0 k).vars.getD i 0=if i=k then y else if i=k+1 then x else d0.vars.getD i 0:=by
 have h1:=s.k1;unfold Zex;dsimp only;rw[s.x,s.y];simp only[List.getD,List.getElem?_set,List.length_set]
 by_cases e1:i=k
 ·
  subst e1;rw[if_neg (by omega),if_pos rfl,if_pos (by omega),if_pos rfl];rfl
 ·
  by_cases e2:i=k+1
  ·
   subst e2;rw[if_pos rfl,if_pos h1,if_neg e1,if_pos rfl];rfl
  ·
   rw[if_neg (Ne.symm e2),if_neg (Ne.symm e1),if_neg e1,if_neg e2]
theorem Zia (d0:Zac) (k:Nat):(Zex d0 k).vars.length=d0.vars.length:=by simp[Zex]
theorem Zbj.final {done:Nat->Prop} (m:Zbj d0 V0 k x y Wt (Zat d0) done d V) (s:SwV d0 k x y) (hk:Zaj d0 V0) (hl:d0.level.length=d0.vars.length) (hall:∀ i,Turns (Zaa d0) x y i->done i):Zaj d V:=by
 obtain⟨hx,hy,lx,ly,hxy⟩:=s.facts hk;have hlev:levN d=Ze9 (levN d0) x y:=by funext v;unfold levN;rw[m.level];exact Zyd s hk hl v
 have hvl:d.vars.length=d0.vars.length:=by rw[m.vars,Zia]
 have hdag:=m.mid.final hk.dag hx hy (by omega) hall;have hsw:∀ v,v<d0.vars.length->(v=x/\Ze9 (levN d0) x y v=k+1)\/(v=y/\Ze9 (levN d0) x y v=k)\/(v≠x/\v≠y/\Ze9 (levN d0) x y v=levN d0 v/\levN d0 v≠k/\levN d0 v≠k+1):=by
  intro v hv
  by_cases e1:v=x
  ·
   subst e1;exact .inl ⟨rfl,by rw[Zhf,ly]⟩
  ·
   by_cases e2:v=y
   ·
    subst e2;exact .inr (.inl ⟨rfl,by rw[Zhg _ hxy,lx]⟩)
   ·
    exact .inr (.inr ⟨e1,e2,Zk7 _ e1 e2,fun h=>e1 (hk.dag.inj v x hv hx (by rw[h,lx])),fun h=>e2 (hk.dag.inj v y hv hy (by rw[h,ly]))⟩)
 refine⟨by rw[hvl,hlev];exact hdag,by rw[m.ext];exact m.live,fun v hv lo hi id=>?_,m.clen,by rw[hvl];exact hk.small,fun v hv=>?_,fun i hi=>?_⟩
 ·
  rw[hvl] at hv
  by_cases e:v=x
  ·
   subst e;rw[m.tabX];refine⟨fun h=>h.1,fun h=>⟨h,fun hT=>?_⟩⟩;obtain⟨_,b,hb,hby,_⟩:=m.mid.dn id (hall id hT);rw[h] at hb;cases hb;exact hxy hby
  ·
   exact m.tabO v hv e lo hi id
 ·
  rw[hvl] at hv;rw[hlev,m.vars,Zmp s];rcases hsw v hv with ⟨rfl,e⟩|⟨rfl,e⟩|⟨_,_,e,h1,h2⟩
  ·
   rw[e,if_neg (by omega),if_pos rfl]
  ·
   rw[e,if_pos rfl]
  ·
   rw[e,if_neg h1,if_neg h2];exact hk.inv v hv
 ·
  rw[hvl] at hi ⊢;rw[hlev,m.vars,Zmp s]
  by_cases e1:i=k
  ·
   rw[if_pos e1];exact⟨hy,by rw[Zhg _ hxy,lx,e1]⟩
  ·
   rw[if_neg e1]
   by_cases e2:i=k+1
   ·
    rw[if_pos e2];exact⟨hx,by rw[Zhf,ly,e2]⟩
   ·
    rw[if_neg e2];obtain⟨h1,h2⟩:=hk.vlt i hi;refine⟨h1,?_⟩;rw[Zk7 _ (fun e=>e1 (by rw[<- h2,e,lx])) (fun e=>e2 (by rw[<- h2,e,ly]))];exact h2
structure Zj2 (d0:Zac) (V0:Nat->BF) (k:Nat) (d':Zac) (V':Nat->BF):Prop where
 ok:Zaj d' V'
 vars:d'.vars=(Zex d0 k).vars
 level:d'.level=(Zex d0 k).level
 room:d'.pool.room=d0.pool.room
 dead:d'.dead=0
 val:∀ i,(i=0\/∃ b,Zaa d0 i=some b)->V' i=V0 i
 live:∀ i b,Zaa d0 i=some b->1<=Zat d0 i->∃ b',Zaa d' i=some b'
 ext:∀ i b',Zaa d' i=some b'->Zat d' i=Zat d0 i
theorem Zbj.out {done:Nat->Prop} (m:Zbj d0 V0 k x y Wt (Zat d0) done d V) (hok:Zaj d V) (r:Za2 d d'):Zj2 d0 V0 k d' V:=by
 refine⟨r.ok hok,r.vars.trans m.vars,r.level.trans m.level,r.room.trans m.room,r.dead,m.mid.ext,fun i b hb he=>?_,fun i b' hb'=>by rw[r.ext i b' hb',m.ext]⟩;obtain⟨b',hb'⟩:=m.mid.has hb;refine⟨b',?_⟩;rw[r.nodes,if_pos (hok.live.cnt.pos_of_ext hb' (by rw[m.ext];exact he))];exact hb'
end
open Go.RowKit
section
variable {d0 d:Zac} {V0 V:Nat->BF} {k x y:Nat} {Wt:List (Nat×Nat)} {E:Nat->Int} {done:Nat->Prop} {o:Own} {w:World} {sb:Nat}
structure SwF (d0:Zac) (V0:Nat->BF) (k x y:Nat):Prop where
 v:SwV d0 k x y
 ok:Zaj d0 V0
 lev:d0.level.length=d0.vars.length
 top:∀ i,Zat d0 i<=549755813888
theorem SwF.facts (f:SwF d0 V0 k x y):x<d0.vars.length/\y<d0.vars.length/\levN d0 x=k/\levN d0 y=k+1/\x≠y:=f.v.facts f.ok
theorem Zbj.acy (m:Zbj d0 V0 k x y Wt E done d V) (f:SwF d0 V0 k x y):Acy (Zaa d) (rkSw d0.vars.length (levN d0) (Zaa d0) x y (Zaa d)):=by
 obtain⟨hx,hy,lx,ly,hxy⟩:=f.facts;exact Ycd f.ok.dag hx (by omega) m.mid
theorem Zbj.vlen (m:Zbj d0 V0 k x y Wt E done d V):d.vars.length=d0.vars.length:=by rw[m.vars,Zia]
theorem Zsv {o':Own} {w':World} (h:Chg RCnt o o' w w'):Chg Zam o o' w w':=h.mono Zip
theorem Zsp (st:Zaq o w sb d) (hlt:Zai o w) (f:SwF d0 V0 k x y) (m:Zbj d0 V0 k x y Wt E done d V) {e:Nat} (he:midE d0.vars.length (levN d0) (Zaa d0) (Zaa d) x y e) (hE:∀ i,E i<=549755813898) :
 Calls Tryz.prog 122 #[.pointer (some ⟨sb,0,none⟩),.int .i64 e] w fun q w'=>q=.returned (.tuple #[])/\∃ d',Zaq o w' sb d'/\Zai o w'/\Zbj d0 V0 k x y Wt (addE E e 1) done d' V/\Zaa d'=Zaa d/\d'.pool=d.pool/\Chg Zam o o w w':=by
 obtain⟨s,st⟩:=st;obtain⟨hx,hy,lx,ly,hxy⟩:=f.facts;have ho:=Zss m.mid he;refine(Zfl o sb s _ (2*(d0.vars.length-levN d0 x)) w d E e ⟨st,hlt,m.acy f,ho,m.live,fun q b _=>?_,?_⟩).mono ?_
 ·
  have h1:=hE q;have h2:toE e q<=1:=by unfold toE;split<;>omega
  omega
 ·
  rcases ho with h0|⟨c,hc⟩
  ·
   exact .inl h0
  ·
   right;have:=Ya3 f.ok.dag hx (by omega) m.mid he hc;omega
 ·
  rintro q w' ⟨cs,dd,rfl,h1,h2,h3,h4,_,h6⟩;exact⟨rfl,_,⟨s,h1⟩,hlt.mono h6.size,m.counts h2 h3 h4 (Nat.le_refl _),rfl,rfl,Zsv h6⟩
theorem Zso (st:Zaq o w sb d) (hlt:Zai o w) (f:SwF d0 V0 k x y) (m:Zbj d0 V0 k x y Wt E done d V) {i e:Nat} {b:BN} (hb:Zaa d0 i=some b) (hbx:b.v=x) (he:e=b.lo\/e=b.hi) (hE:∀ i,E i<=549755813898) (hp:∀ i,0<=E i-toE e i) :
 Calls Tryz.prog 121 #[.pointer (some ⟨sb,0,none⟩),.int .i64 e] w fun q w'=>q=.returned (.tuple #[])/\∃ d',Zaq o w' sb d'/\Zai o w'/\Zbj d0 V0 k x y Wt (addE E e (-1)) done d' V/\Chg Zam o o w w':=by
 obtain⟨s,st⟩:=st;obtain⟨hx,hy,lx,ly,hxy⟩:=f.facts;have ho0:okE (Zaa d0) e:=by rcases he with rfl|rfl;exact f.ok.dag.okLo _ _ hb;exact f.ok.dag.okHi _ _ hb
 have hlv:levN d0 b.v<lvE d0.vars.length (levN d0) (Zaa d0) e:=by rcases he with rfl|rfl;exact f.ok.dag.lvLo _ _ hb;exact f.ok.dag.lvHi _ _ hb
 have ho:=Zim m.mid ho0;have hat:=st.pool.top;have hrm:=st.pool.room;refine(Zfk o sb s _ (2*(d0.vars.length-levN d0 x)) w d E e ⟨st,hlt,m.acy f,ho,m.live,fun q c hc=>?_,fun q _ _=>hp q,?_⟩).mono ?_
 ·
  have h1:=m.live.cnt.le hc;have h2:=hE q;omega
 ·
  rcases ho0 with h0|⟨c0,hc0⟩
  ·
   exact .inl h0
  ·
   right;rw[Zpt hc0,hbx] at hlv;have hcn:=f.ok.dag.lt _ (f.ok.dag.var _ _ hc0);rcases ho with h0|⟨c,hc⟩
   ·
    rw[h0,f.ok.dag.none0] at hc0;cases hc0
   ·
    rcases Zx0 m.mid hc0 hc with ⟨_,hv,_⟩|⟨_,_,h3,_⟩
    ·
     rw[hv] at hlv;omega
    ·
     omega
 ·
  rintro q w' ⟨cs,dd,rfl,h1,h2,h3,h4,_,h6⟩;exact⟨rfl,_,⟨s,h1⟩,hlt.mono h6.size,m.counts h2 h3 h4 (Nat.le_refl _),Zsv h6⟩
theorem Zha {V:Nat->BF} (st:Zaq o w sb d) (hlt:Zai o w) (hk:Zaj d V) :
 Calls Tryz.prog 65 #[.pointer (some ⟨sb,0,none⟩)] w fun q w'=>q=.returned (.int .i64 d.dead)/\∃ o' d',Zaq o' w' sb d'/\Zai o' w'/\Za2 d d'/\Chg Zam o o' w w':=by
 by_cases h0:d.dead=0
 ·
  refine(Zhm st h0).mono ?_;rintro q w' ⟨rfl,hb⟩;obtain⟨s,st⟩:=st;exact⟨by rw[h0];rfl,o,d,⟨s,st.below hlt hb⟩,hlt.mono hb.size,Za2.none hk h0,Chg.of_below hb _ _⟩
 ·
  exact Zj7 st hlt hk h0
end
open Go.RowKit
section
variable {R:Role->Prop} {o o':Own} {w w':World}
structure Box (o:Own) (w:World) (b:Nat) (O:Obj):Prop where
 blk:w.heap[b]?=some O
 no:o b=none
theorem Box.chg {b:Nat} {O:Obj} (h:Box o w b O) (hc:Chg R o o' w w'):Box o' w' b O :=
 ⟨(hc.alien (Array.getElem?_eq_some_iff.1 h.blk).1 h.no).trans h.blk,hc.alien' (Array.getElem?_eq_some_iff.1 h.blk).1 h.no⟩
theorem Box.cell {b:Nat} {cs:Array Value} {T:TypeId} (h:Box o w b (.cells cs T (0,0))) (i:Nat):w.cell? ⟨b,i,none⟩=cs[i]?:=cell_of_row w b i _ _ _ h.blk
theorem Box.other {b:Nat} {O:Obj} {p:Addr} {u:Value} (h:Box o w b O) (hne:b≠p.block):Box o (w.setCell p u) b O:=⟨(Zad hne _).trans h.blk,h.no⟩
theorem Box.set {b:Nat} {cs:Array Value} {T:TypeId} (h:Box o w b (.cells cs T (0,0))) (i:Nat) (u:Value):Box o (w.setCell ⟨b,i,none⟩ u) b (.cells (cs.setIfInBounds i u) T (0,0)) :=
 ⟨Zae h.blk u,h.no⟩
theorem TRow.chg {base:Nat} {v:Value} {ts:List TN} (h:TRow w base v ts) (hc:Chg R o o' w w') (hn:0<ts.length->∀ g,v.ownBlock=some g->o g=none):TRow w' base v ts:=by
 by_cases hp:0<ts.length
 ·
  exact h.keep fun g _ hg hv=>hc.alien hg (hn hp g hv)
 ·
  obtain⟨a,c,h1,_⟩:=h.ex;exact⟨h.small,a,c,h1,fun k hk=>by omega⟩
theorem TRow.blk {base:Nat} {v:Value} {ts:List TN} (h:TRow w base v ts) (hp:0<ts.length):∀ g,v.ownBlock=some g->base<=g/\g<w.heap.size:=by
 obtain⟨a,c,rfl,h1⟩:=h.ex;obtain⟨g0,rfl,hb,hc⟩:=h1 0 hp;intro g hg;cases hg;exact⟨hb,Zab (hc 0 _ rfl)⟩
end
structure RndI (sb:Nat) (o1:Own) (w1:World) (base:Nat) (v:Value) (ts:List TN) (W:World) (o:Own) (d:Zac):Prop where
 st:Zaq o W sb d
 lt:Zai o W
 row:TRow W base v ts
 no:0<ts.length->∀ g,v.ownBlock=some g->o g=none
 chg:Chg Zam o1 o w1 W
section
variable {sb:Nat} {o1 o o':Own} {w1 W W':World} {base:Nat} {v:Value} {ts:List TN} {d d':Zac} {R:Role->Prop}
theorem RndI.move (h:RndI sb o1 w1 base v ts W o d) (st:Zaq o' W' sb d') (lt:Zai o' W') (hc:Chg R o o' W W') (hR:∀ r,R r->Zam r):RndI sb o1 w1 base v ts W' o' d' :=
 ⟨st,lt,h.row.chg hc h.no,fun hp g hg=>hc.alien' (h.row.blk hp g hg).2 (h.no hp g hg),h.chg.trans (hc.mono hR)⟩
theorem RndI.below (h:RndI sb o1 w1 base v ts W o d) (hb:Below W.heap.size W W'):RndI sb o1 w1 base v ts W' o d :=
 h.move (R:=Zam) (h.st.below h.lt hb) (h.lt.mono hb.size) (Chg.of_below hb _ _) (fun _ h=>h)
theorem RndI.write (h:RndI sb o1 w1 base v ts W o d) {b:Nat} (hb:o b=none) (h1:w1.heap.size<=b) (hv:∀ g,0<ts.length->v.ownBlock=some g->g≠b) (i:Nat) (u:Value):RndI sb o1 w1 base v ts (W.setCell ⟨b,i,none⟩ u) o d:=by
 refine⟨h.st.keepR (fun g r hg _=>Zad (by rintro rfl;rw[hb] at hg;cases hg) _) (fun _ _ h=>h),h.lt.mono (by simp[World.setCell]),?_,h.no,h.chg.setCell_new h1 u⟩
 by_cases hp:0<ts.length
 ·
  exact h.row.keep fun g _ _ hg=>Zad (hv g hp hg) _
 ·
  obtain⟨a,c,h2,_⟩:=h.row.ex;exact⟨h.row.small,a,c,h2,fun k hk=>by omega⟩
end
section
variable {d0 d:Zac} {V0 V:Nat->BF} {k x y:Nat} {Wt:List (Nat×Nat)} {E:Nat->Int} {done:Nat->Prop}
theorem Zvm (E:Nat->Int) (a b lo hi:Nat):addE (addE (addE (addE (addE (addE E lo 1) hi 1) a 1) b 1) lo (-1)) hi (-1)=addE (addE E a 1) b 1:=by
 funext i;unfold addE;omega
theorem Zvl (E:Nat->Int) (a b:Nat):addE (addE (addE (addE E a 1) b 1) a (-1)) b (-1)=E:=by
 funext i;unfold addE;omega
theorem Zn6 {i:Nat} {n:RN} (hk:i<d.pool.at_.length) (ht:d.pool.tk i=true):Zaa { d with pool:=d.pool.setNd i n }=setN (Zaa d) i (bnOf n):=by
 funext j;unfold Zaa setN;rw[Zak.setNd_get hk ht]
 by_cases e:j=i
 ·
  rw[if_pos e,if_pos e];rfl
 ·
  rw[if_neg e,if_neg e]
theorem Zrt {i:Nat} {n:RN} (hk:i<d.pool.at_.length) (ht:d.pool.tk i=true) (he:(n.refs:Int)=Zat d i):Zat { d with pool:=d.pool.setNd i n }=Zat d:=by
 funext j;have hb:Zat d i=((d.pool.nd i).refs:Int):=Zb9 ht;unfold Zat;have h1:(d.pool.setNd i n).tk j=d.pool.tk j:=rfl;have h2:(d.pool.setNd i n).nd j=if j=i then n else d.pool.nd j:=Zhy hk j
 dsimp only;rw[h1,h2]
 by_cases e:j=i
 ·
  subst e;rw[if_pos rfl,he,hb]
 ·
  rw[if_neg e]
theorem Zbj.turned {i lo hi:Nat} {b:BN} {n:RN} (m:Zbj d0 V0 k x y Wt (addE (addE (Zat d0) lo 1) hi 1) done d V) (f:SwF d0 V0 k x y) (hT:Turns (Zaa d0) x y i) (hd:¬ done i) (hb:Zaa d0 i=some b)
 (hlo:midE d0.vars.length (levN d0) (Zaa d0) (Zaa d) x y lo) (hhi:midE d0.vars.length (levN d0) (Zaa d0) (Zaa d) x y hi) (hr:hi%2=0) (hne:lo≠hi) (hV:V0 i=iteF y (ef V hi) (ef V lo))
 (hn:bnOf n=⟨y,lo,hi⟩) (hrf:(n.refs:Int)=Zat d0 i) (hk:i<d.pool.at_.length) :
 d.tab y (lo,hi)=none/\Zbj d0 V0 k x y Wt (addE (addE (Zat d0) b.lo 1) b.hi 1) (fun j=>done j\/j=i) { d with pool:=d.pool.setNd i n,tab:=fun u=>if u=y then putF (d.tab y) (lo,hi) (some i) else d.tab u } V:=by
 obtain⟨hx,hy,lx,ly,hxy⟩:=f.facts;have hbd:Zaa d i=some b:=m.mid.keep i b hb hd;have ht:=(Zav hbd).1;refine⟨m.fresh_y f.ok.dag hxy hy hT hd hV,?_⟩;have h1:=m.set (p':=d.pool.setNd i n) hxy f.ok.dag hy hT hd hb hlo hhi hr hne hV (by rw[Zn6 hk ht,hn]) (Zrt hk ht (by rw[hrf,m.ext])) rfl rfl (by simp[Zak.setNd]);rw[Zvm] at h1;have e:(fun u=>if u=y then putF (d.tab u) (lo,hi) (some i) else d.tab u)=(fun u=>if u=y then putF (d.tab y) (lo,hi) (some i) else d.tab u):=by
  funext u;by_cases e:u=y
  ·
   subst e;rfl
  ·
   rw[if_neg e,if_neg e]
 rw[e] at h1;exact h1
end
theorem Yah {sb:Nat} {o1 o:Own} {w1 W:World} {base:Nat} {v:Value} {ts:List TN} {d:Zac} {s:Za0} (h:RndI sb o1 w1 base v ts W o d) (st:Zal o W sb d s) {n:RN} (ht:d.pool.tk n.id=true) {O1 O2:Obj} {b1 b2:Nat} (x1:Box o W b1 O1) (x2:Box o W b2 O2) :
 Calls Tryz.prog 120 #[.pointer (some ⟨s.pb,0,none⟩),Zau n] W fun e w'=>∃ q,e=.returned q/\(q=.int .i64 0/\RndI sb o1 w1 base v ts w' o { d with pool:=d.pool.setNd n.id n }/\Zal o w' sb { d with pool:=d.pool.setNd n.id n } s/\Box o w' b1 O1/\Box o w' b2 O2):=by
 refine(Zhd o s.pb d.pool n W st.pool h.lt ht).mono ?_;rintro e w' ⟨rfl,hp,hc,hl'⟩;have st':=st.setPool h.lt hp (hc.mono (fun r hr=>by simp[Zfb,hr]));exact⟨_,rfl,rfl,h.move ⟨s,st'⟩ hl' hc Zge,st',x1.chg hc,x2.chg hc⟩
theorem Yag {sb:Nat} {o1 o:Own} {w1 W:World} {base:Nat} {v:Value} {ts:List TN} {d:Zac} {s:Za0} (h:RndI sb o1 w1 base v ts W o d) (st:Zal o W sb d s) {y lo hi id:Nat} (hy:y<s.ts.length) (hf:d.tab y (lo,hi)=none) {O1 O2:Obj} {b1 b2:Nat} (x1:Box o W b1 O1) (x2:Box o W b2 O2) :
 Calls Tryz.prog 158 #[.pointer (some ⟨s.ts.getD y 0,0,none⟩),.int .i64 lo,.int .i64 hi,.int .i64 id] W fun e w'=>∃ q,e=.returned q/\(q=.int .i64 0/\RndI sb o1 w1 base v ts w' o { d with tab:=fun u=>if u=y then putF (d.tab y) (lo,hi) (some id) else d.tab u }/\Box o w' b1 O1/\Box o w' b2 O2):=by
 refine(Zxw o y (s.ts.getD y 0) (d.tab y) lo hi id W (st.tab y hy) h.lt hf).mono ?_;rintro e w' ⟨rfl,ht,hc,hl'⟩;have st':=st.setTab h.lt ht hc;exact⟨_,rfl,rfl,h.move ⟨s,st'⟩ hl' hc (fun r hr=>by simp[Zam,hr]),x1.chg hc,x2.chg hc⟩
structure Ybg (d0:Zac) (V0:Nat->BF) (x y i:Nat) (b:BN):Prop where
 node:Zaa d0 i=some b
 v:b.v=x
 lo:(d0.pool.nd i).lo=b.lo
 hi:(d0.pool.nd i).hi=b.hi
 id:(d0.pool.nd i).id=i
 val:Ybh d0 V0 x y i (tnOf d0 y i).ll (tnOf d0 y i).lh (tnOf d0 y i).hl (tnOf d0 y i).hh
 ne:(tnOf d0 y i).ll≠(tnOf d0 y i).lh\/(tnOf d0 y i).hl≠(tnOf d0 y i).hh
theorem Zyp {d0:Zac} {V0:Nat->BF} {k x y i:Nat} {o:Own} {w:World} {sb:Nat} {s:Za0} (f:SwF d0 V0 k x y) (h:Zal o w sb d0 s) (hT:Turns (Zaa d0) x y i):∃ b,Ybg d0 V0 x y i b:=by
 obtain⟨hx,hy,lx,ly,hxy⟩:=f.facts;obtain⟨b,hb,hbx,hby⟩:=id hT;obtain⟨ht,hhas,he⟩:=Zav hb;rw[hhas] at he;have e1:(d0.pool.nd i).lo=b.lo:=by rw[<- he];rfl
 have e2:(d0.pool.nd i).hi=b.hi:=by rw[<- he];rfl
 refine⟨b,hb,hbx,e1,e2,h.pool.id i ht,?_,?_⟩
 ·
  have:=Zyq f.ok hy (by omega) hb hbx;unfold tnOf;rw[e1,e2];exact this
 ·
  have:=(Ziw f.ok hb hbx).2 hT;unfold Zep at this;exact of_decide_eq_true this
structure Zu9 (d0:Zac) (V0:Nat->BF) (k x y:Nat) (Wt:List (Nat×Nat)) (done:Nat->Prop) (i:Nat) (r1 r2:Nat) (d:Zac) (V:Nat->BF):Prop where
 mid:Zbj d0 V0 k x y Wt (Zat d0) done d V
 e1:midE d0.vars.length (levN d0) (Zaa d0) (Zaa d) x y r1
 e2:midE d0.vars.length (levN d0) (Zaa d0) (Zaa d) x y r2
 reg:r2%2=0
 ne:r1≠r2
 val:V0 i=iteF y (ef V r2) (ef V r1)
theorem Zu9.of {d0:Zac} {V0:Nat->BF} {k x y:Nat} {Wt:List (Nat×Nat)} {done:Nat->Prop} {i r1 r2:Nat} {d d1 d2:Zac} {V V1 V2:Nat->BF} {b:BN} (f:SwF d0 V0 k x y) (t:Ybg d0 V0 x y i b)
 (h1:Zfp d0 V0 k x y Wt done d V (tnOf d0 y i).ll (tnOf d0 y i).hl r1 d1 V1) (h2:Zfp d0 V0 k x y Wt done d1 V1 (tnOf d0 y i).lh (tnOf d0 y i).hh r2 d2 V2):Zu9 d0 V0 k x y Wt done i r1 r2 d2 V2:=by
 obtain⟨hx,hy,lx,ly,hxy⟩:=f.facts;obtain⟨k1,k2⟩:=h2.keep r1 h1.edge;obtain⟨q1,q2⟩:=Zu6 (V:=V2) f.ok hx hy hxy (by omega) t.val t.ne (k2.trans h1.val) h2.val;exact⟨h2.mid,k1,h2.edge,h2.reg t.val.reg,q2,q1⟩
theorem Ztk {d0 d:Zac} {V0 V:Nat->BF} {k x y:Nat} {Wt:List (Nat×Nat)} {E:Nat->Int} {done:Nat->Prop} {ps:List (Nat×Nat)} (m:Zbj d0 V0 k x y Wt E done d V) (f:SwF d0 V0 k x y) (hw:Zfw (d0.tab x) ps Wt) {lo hi:Nat} (hp:(lo,hi)∈ps)
 (hlo:lowE d0.vars.length (levN d0) (Zaa d0) y lo) (hhi:lowE d0.vars.length (levN d0) (Zaa d0) y hi) (hne:lo≠hi) (ht:d.tab x (bkey lo hi)=none):bkey lo hi∈Wt:=by
 obtain⟨hx,hy,lx,ly,hxy⟩:=f.facts;refine hw.has (lo,hi) hp hne ?_
 show d0.tab x (bkey lo hi)=none
 cases e:d0.tab x (bkey lo hi) with
 | none=>rfl
 | some id =>
   exfalso;have hb:=(f.ok.tab x hx _ _ id).1 e;have low:∀ {e:Nat},lowE d0.vars.length (levN d0) (Zaa d0) y e->¬ isV (Zaa d0) y e:=by
    rintro e ⟨_,h2⟩ ⟨c,hc,hcv⟩;rw[Zpt hc,hcv] at h2;omega
   by_cases hT:Turns (Zaa d0) x y id
   ·
    obtain⟨b,hb',hbx,hby⟩:=hT;rw[hb] at hb';cases hb';rcases hby with h|h
    ·
     exact low (Zc4 hlo) h
    ·
     exact low (Zc4 hhi) h
   ·
    have h1:=(m.tabX (bkey lo hi).1 (bkey lo hi).2 id).2 ⟨m.mid.keep id _ hb (fun hd=>hT (m.mid.dn id hd).1),hT⟩;rw[show ((bkey lo hi).1,(bkey lo hi).2)=bkey lo hi from rfl,ht] at h1;cases h1
open Go.RowKit
section
variable {F:Phi} {o:Own} {w:World} {sb mb:Nat} {d:Zac} {m:ManD}
theorem Zoa (h:Zaq o w sb d):Calls Tryz.prog 155 #[.pointer (some ⟨sb,0,none⟩)] w fun x w'=>x=.returned (.int .i64 d.pool.room)/\w=w':=by
 obtain⟨s,h⟩:=h;obtain⟨c0,c1,c2,c3,c4,f0⟩:=cells5 h.blk;have HP:=Hd (Zp5 o s.pb d.pool w h.pool);clear h
 go_enter Tryz.func155,Tryz.ntmps155
 go_wp2_with fail;refine HP.out.mono ?_;rintro x w' ⟨rfl,rfl⟩;go_wp2_with fail;go_ret;exact⟨rfl,rfl⟩
end
section
variable {F:Phi} {o:Own} {w:World} {sb mb:Nat} {d:Zac} {m:ManD}
theorem Zqh (h:Zaq o w sb d):Calls Tryz.prog 63 #[.pointer (some ⟨sb,0,none⟩)] w fun x w'=>x=.returned (.int .i64 d.pool.many)/\w=w':=by
 obtain⟨s,h⟩:=h;obtain⟨c0,c1,c2,c3,c4,f0⟩:=cells5 h.blk;have HP:=Hd (Zrr o s.pb d.pool w h.pool);clear h
 go_enter Tryz.func63,Tryz.ntmps63
 go_wp2_with fail;refine HP.out.mono ?_;rintro x w' ⟨rfl,rfl⟩;go_wp2_with fail;go_ret;exact⟨rfl,rfl⟩
end
end Go.Proofs.YtlgogjbkadckkaaGreat
