/- Several texts in one file: contracts of the program's functions and what follows from them. -/
import Derived.Test.YtkidaindpahefaaGreatD5
import Derived.Deep.CutBlock
import Derived.Defers
set_option linter.unusedSimpArgs false
set_option linter.unusedVariables false
set_option linter.unusedSectionVars false
set_option linter.unnecessarySimpa false
set_option maxRecDepth 100000
set_option maxHeartbeats 8000000
namespace Go.Proofs.YtkidaindpahefaaGreat
open Go.Proofs.Tryz
open Go.RowKit
abbrev KF:Law:=fun _ _ _ _ _ _ _=>False
section
variable {K:Law}{n:Nat}{Od:List Nat->Prop}{room:Nat}{w0 w w':World}{mb:Nat}{fs:List (Int×BF)}{nx:Int}{o o':Own}{m m':ManD}{V V':Nat->BF}
theorem SatE.full (h:SatE KF n Od room w0 mb fs nx w o m V):SatE K n Od room w0 mb fs nx w o m V:=by
 obtain⟨s,hs⟩:=h.is;exact⟨⟨s,hs.mono fun _ _ _ _ _ e=>e.elim⟩,h.lt,h.ok,h.vars,h.od,h.room,h.next,h.hs,h.chg⟩
theorem SatE.cleared {s:ManW}{w1:World}(h:SatE K n Od room w0 mb fs nx w o m V)(g1:Zby (fun _ _ _ _ _=>False) o w1 mb m s)(g2:Chg (· = .entries) o o w w1)(g3:Zah o w1):SatE KF n Od room w0 mb fs nx w1 o m V :=
 ⟨⟨s,g1⟩,g3,h.ok,h.vars,h.od,h.room,h.next,h.hs,h.chg.lower (ChgX.of_chg g2.any NoB) (fun _ e=>e.elim)⟩
structure HapS (n room:Nat)(w0:World)(mb:Nat)(fs:List (Int×BF))(nx:Int)(o:Own)(w:World)(m:ManD)(o':Own)(w':World)(m':ManD)(V':Nat->BF):Prop where
 sat:SatE KF n (fun _=>True) room w0 mb fs nx w' o' m' V'
 waits:m'.waits=m.waits
 calls:m'.calls=m.calls
 chg:Chg (fun _=>True) o o' w w'
 many:m'.d.pool.many<=m.d.pool.many\/m'.d.pool.many<=fs.length*2^n
theorem HapS.trans {o'':Own}{w'':World}{m'':ManD}{V'':Nat->BF}(h:HapS n room w0 mb fs nx o w m o' w' m' V')(h':HapS n room w0 mb fs nx o' w' m' o'' w'' m'' V''):HapS n room w0 mb fs nx o w m o'' w'' m'' V'' :=
 ⟨h'.sat,h'.waits.trans h.waits,h'.calls.trans h.calls,h.chg.trans h'.chg,by
  rcases h'.many with h1|h1
  . exact h.many.imp (fun h2=>Nat.le_trans h1 h2) (fun h2=>Nat.le_trans h1 h2)
  . exact .inr h1⟩
theorem Zwq {s:ManW}(h:SatE KF n (fun _=>True) room w0 mb fs nx w o m V)(hs:Zby (fun _ _ _ _ _=>False) o w mb m s)(hn:nx<=549755813888)(z:Int) :
 Calls prog 160 #[.pointer (some ⟨s.sb,0,none⟩),.int .i64 z] w fun e w'=>∃ q:Int,e=.returned (.int .i64 q)/\∃ o' m' V',HapS n room w0 mb fs nx o w m o' w' m' V':=by
 by_cases hz:z<0\/(n:Int)-1<=z
 . refine(Zom hs.store h.ok.store.small z (by rw[h.vars];exact hz)).mono ?_;rintro e w' ⟨rfl,rfl⟩;exact⟨2,rfl,o,m,V,h,rfl,rfl,Chg.refl _ _ _,.inl (Nat.le_refl _)⟩
 ·obtain⟨k,rfl⟩:∃ k:Nat,z=k:=⟨z.toNat,by omega⟩;refine(Zyh h hs (Chg.refl _ _ _) h.lt (by omega) hn).mono ?_;rintro e w' ⟨o',m',V',hm⟩;obtain⟨d0,cr,hw⟩:=hm.way;rcases hw with ⟨e1,e2,_⟩|⟨e1,so⟩
  . exact⟨7,e1,o',m',V',hm.sat,hm.waits,hm.calls,hm.chg,.inr (hm.sat.few (by rw[e2];exact cr.dead))⟩
  . exact⟨0,e1,o',m',V',hm.sat,hm.waits,hm.calls,hm.chg,.inr (hm.sat.few so.dead)⟩
theorem Zt5 {s:ManW}(h:SatE KF n (fun _=>True) room w0 mb fs nx w o m V)(hs:Zby (fun _ _ _ _ _=>False) o w mb m s) :
 Calls prog 215 #[.pointer (some ⟨s.sb,0,none⟩)] w fun e w'=>∃ q:Int,e=.returned (.int .i64 q)/\∃ o' m' V',HapS n room w0 mb fs nx o w m o' w' m' V':=by
 refine(Zhp hs.store h.lt h.ok.store).mono ?_;rintro e w' ⟨rfl,o',d',st,lt,cr,ch⟩;have g0:SatE KF n (fun _=>True) room w0 mb fs nx w' o' { m with d:=d' } V:=⟨⟨s,hs.setStore h.lt st ch⟩,lt,⟨cr.ok h.ok.store,Zgd h.ok.handles h.ok.store cr⟩,by dsimp only;rw[cr.vars];exact h.vars,trivial,by dsimp only;rw[cr.room];exact h.room,h.next,h.hs,h.chg.lower (ChgX.of_chg ch.any NoB) (fun _ e=>e.elim)⟩;exact⟨_,rfl,o',{ m with d:=d' },V,g0,rfl,rfl,ch.any,.inr (g0.few cr.dead)⟩
theorem Zry {base:Nat}{v:Value}{zs:List Int}(h:OwnI w base v zs):zs.length<=9223372036854775807:=by
 rcases h.2 with ⟨_,h0⟩|⟨g,cap,cur,_,_,_,h1,h2,_⟩
 . omega
 . unfold maxLen at h2;omega
theorem Zav.chg {R:Role->Prop}{a:Option Addr}{zs:List Int}(h:Zav w a zs)(hc:Chg R o o' w w')(hn:∀ x,a=some x->o x.block=none):Zav w' a zs :=
 ⟨h.len,fun k hk=>by
  obtain⟨b,off,rfl,hc1⟩:=h.cells k hk;exact⟨b,off,rfl,hc.cell (p:=⟨b,off+k,none⟩) hc1 (hn ⟨b,off,none⟩ rfl)⟩⟩
theorem Zmj (hn:nx<=549755813888)(ev:Ev):HapG K n (fun _=>True) room w0 mb fs nx ev:=by
 intro o W m V h;obtain⟨P,hP⟩:∃ P:Ending->World->Prop,P=fun x w'=>x=.returned (.tuple #[]) /\
  ∃ o' m' V',SatE K n (fun _=>True) room w0 mb fs nx w' o' m' V'/\m'.waits=m.waits/\m'.calls=m.calls/\(m'.d.pool.many<=m.d.pool.many\/m'.d.pool.many<=fs.length*2^n)/\ChgX NoB o o' W w':=⟨_,rfl⟩
 rw[<- hP];obtain⟨W1,g7⟩:∃ W1,W1=W.alloc (.cells #[.int .i64 ev.after,.int .i64 ev.kind,.int .i64 ev.level] 77):=⟨_,rfl⟩;have gh:Below W.heap.size W W1:=by rw[g7];exact Zae W _
 obtain⟨bx,g0⟩:∃ q,q=W.heap.size:=⟨_,rfl⟩;have gB:Hid (Box o W1 bx (.cells #[.int .i64 ev.after,.int .i64 ev.kind,.int .i64 ev.level] 77 (0,0))):=Hd ⟨by rw[g7,g0];exact heap_alloc_new W _,h.lt.none (by rw[g0];exact Nat.le_refl _)⟩;have h1:=h.below gh
 have HP:Hid (∀ o' w' m' V',HapS n room w0 mb fs nx o W1 m o' w' m' V'->P (.returned (.tuple #[])) w'):=Hd (by
  intro o' w' m' V' hh;rw[hP];exact⟨rfl,o',m',V',hh.sat.full,hh.waits,hh.calls,hh.many,(ChgX.of_below gh o NoB).trans (ChgX.of_chg hh.chg NoB) (fun _ _ e=>e)⟩)
 obtain⟨s,hs⟩:=h1.is;obtain⟨c0,c1,c2,c3,c4,c5,f0⟩:=cells6 hs.blk;have gA:=Hd (wclear h1 hs (fun _ _ _ _ _=>False));have H1:=Hd h1;obtain⟨kd,gr⟩:∃ z,z=ev.kind:=⟨_,rfl⟩;obtain⟨lv,gp⟩:∃ z,z=ev.level:=⟨_,rfl⟩;obtain⟨af,gw⟩:∃ z,z=ev.after:=⟨_,rfl⟩;have HN:=Hd hn;unfold evA;rw[<- gr,<- gp,<- gw] at gB g7 ⊢;have HW:=Hd g7;have HX:=Hd g0;clear h h1 hs hP gh g0 gr gp gw hn g7
 go_enter func243,ntmps243
 go_upto_region 1 with fail;rw[<- HW.out,<- HX.out];go_wp2_with fail;refine gA.out.mono ?_;rintro x w1 ⟨rfl,g1,g2,g3⟩;have g4:=Hd (H1.out.cleared g1 g2 g3);have HB2:=Hd (gB.out.chg g2);have HG:=Hd g1;have gk:Hid (Chg (fun _=>True) o o W1 w1):=Hd g2.any;have b1:w1.cell? ⟨bx,1,none⟩=some (.int .i64 kd):=HB2.out.cell 1;have b2:w1.cell? ⟨bx,2,none⟩=some (.int .i64 lv):=HB2.out.cell 2;clear c0 c1 c2 c3 c4 c5 f0 gA g1 g2 g3;obtain⟨c0,c1,c2,c3,c4,c5,f0⟩:=cells6 HG.out.blk
 by_cases k1:kd=1
 . subst k1;have HC:=Hd (Zt5 g4.out HG.out);go_wp2_with fail;refine HC.out.mono ?_;rintro x w2 ⟨q,rfl,o',m',V',hh⟩;have HF:=Hd (HP.out o' w2 m' V' ⟨hh.sat,hh.waits,hh.calls,gk.out.trans hh.chg,hh.many⟩);clear hh;go_wp2_with fail;refine bodyPost_end (results_none rfl _ _ _) rfl ?_;exact HF.out
 ·have e1:(kd == 1)=false:=by simp[k1]
  by_cases k2:kd=2
  ·subst k2;clear k1 e1;have HC:=Hd (Zwq (g4.out.below (Zag w1 1)) (HG.out.below g4.out.lt (Zag w1 1)) HN.out lv);go_upto_region 13 with fail;refine Zan (fun W:World=>W=w1.drew) true 6 [(0,false),(1,false),(2,false),(3,false),(4,false),(5,false),(6,true)] (by kernel_rfl) (by kernel_rfl) rfl ?_;simp only[planned,Zdd]
   iterate 6
    refine Zaj rfl ?_;apply Exists.intro;refine⟨fun w' hw=>?_,?_⟩
    . subst hw;go_simp;rfl
    simp only[Zai]
   refine Zdf rfl (by go_simp) (HC.out.mono (R':=fun e w'=>∃ v,e=.returned v/\∃ o' m' V',HapS n room w0 mb fs nx o w1.drew m o' w' m' V') (fun e w' h=>by obtain⟨q,e1,h2⟩:=h;exact⟨_,e1,h2⟩)) ?_;rintro v w2 ⟨o',m',V',hh⟩;simp only[Zai];refine Zb8 ?_;have HF:=Hd (HP.out o' w2 m' V' ⟨hh.sat,hh.waits,hh.calls,gk.out.trans ((Chg.of_below (Zag w1 1) _ _).trans hh.chg),hh.many⟩);clear hh;go_wp2_with fail;refine bodyPost_end (results_none rfl _ _ _) rfl ?_;exact HF.out
  ·have e2:(kd == 2)=false:=by simp[k2]
   clear k1 k2;have gc:m.d.vars.length<=64:=g4.out.ok.store.small;have HO:=Hd (Zhi HG.out.store g4.out.lt gc);go_wp2_with fail;refine HO.out.mono ?_;rintro x w2 ⟨v,rfl,g8,gv⟩;obtain⟨zs,ga⟩:∃ zs,zs=m.d.vars.map Int.ofNat:=⟨_,rfl⟩;have gC:zs.length<=64:=by rw[ga,List.length_map];exact gc
   rw[<- ga] at g8;obtain⟨a,c,rfl,ha,go⟩:=g8.sliceIs (by omega);have HT:=Hd (Zp6 a c zs w2 ha (by omega));have gF:Hid (SliceIs w2 (.slice a zs.length c) zs):=Hd ⟨a,c,rfl,ha,go⟩;have g9:=Hd gv;have gK:=Hd gC;clear g8 gv ga ha go gc c0 c1 c2 c3 c4 c5 f0 b1 b2 HO;go_wp2_with fail;refine HT.out.mono ?_;rintro x w3 ⟨vt,rfl,gD,gg⟩;obtain⟨at',ct',gm,q1,q2⟩:=gD;rw[List.length_reverse] at gm;subst gm;have gx:=Hd (Zij (.slice a zs.length c) (.slice at' zs.length ct') zs zs.reverse w3 (gF.out.below gg) ⟨at',ct',by rw[List.length_reverse],q1,q2⟩ (by omega) (by simp;omega));have gl:=Hd gg;clear gg HT q1 q2;go_wp2_with fail;refine gx.out.mono ?_;rintro x w4 ⟨vr,rfl,g6,gu⟩;obtain⟨rs,gn⟩:∃ rs,rs=Zc1 zs zs.reverse:=⟨_,rfl⟩;obtain⟨er,gt⟩:∃ z,z=Zcy zs zs.reverse:=⟨_,rfl⟩;rw[<- gn] at g6;rw[<- gt];have g0:Below w1.heap.size w1 w4:=g9.out.trans ((gl.out.trans (gu.mono gl.out.size)).mono g9.out.size);have ge:=g6.lt;have gE:rs.length<=9223372036854775807:=Zry g6;obtain⟨ar,cr,rfl,hi,_⟩:=g6.sliceIs gE
   have gj:Hid (∃ o' m' V',HapS n room w0 mb fs nx o w1 m o' w4 m' V'/\Zav w4 ar rs/\(∀ x,ar=some x->o' x.block=none)):=Hd ⟨o,m,V,(⟨g4.out.below g0,rfl,rfl,Chg.of_below g0 _ _,.inl (Nat.le_refl _)⟩:HapS n room w0 mb fs nx o w1 m o w4 m V),hi,fun x hx=>by
    subst hx;refine g4.out.lt.none ?_;have h1:=(ge _ rfl).1;have h2:=g9.out.size;have h3:=gl.out.size;omega⟩
   clear gt gn g6 gu g0 ge hi gx;go_wp2_with fail
   go_loopw [30] (fun s30 wr=>∃ j:Nat,j<=rs.length/\s30=.int .i64 j/\Hid (∃ o' m' V',HapS n room w0 mb fs nx o w1 m o' wr m' V'/\Zav wr ar rs/\(∀ x,ar=some x->o' x.block=none))) (fun s30 _=>rs.length-(intOf s30).toNat)
   case atStart=>exact⟨0,Nat.zero_le _,rfl,gj⟩
   case round =>
    obtain⟨j,hj,rfl,HH⟩:=hrel;obtain⟨oj,mj,Vj,hh,hi,gd⟩:=HH.out
    by_cases gq:j<rs.length
    ·obtain⟨b,off,rfl,g5⟩:=hi.cells j gq;obtain⟨s',hs'⟩:=hh.sat.is;obtain⟨c0,c1,c2,c3,c4,c5,f0⟩:=cells6 hs'.blk;have gJ:(j:Int)<rs.length:=by omega
     obtain⟨z,hz⟩:∃ z,z=at0 rs j:=⟨_,rfl⟩;rw[<- hz] at g5;have HC:=Hd (Zwq hh.sat hs' HN.out z);have gH:=Hd hh;have gG:=Hd hi;have gy:=Hd gd;have gf:b<wr.heap.size:=Zab g5;have gI:=Hd gf;have gz:=Hd gq;clear hh hi gd hs' HH gj hz gf;go_wp2_with fail;refine HC.out.mono ?_;rintro x w5 ⟨q,rfl,o5,m5,V5,h5⟩;have gi:=Hd (And.intro (gH.out.trans h5) (And.intro (gG.out.chg h5.chg gy.out) (fun x (hx:some _=some x)=>h5.chg.alien' (by cases hx;exact gI.out) (gy.out x hx))));clear h5 c0 c1 c2 c3 c4 c5 f0 g5;go_wp2_with fail;go_roundw
     case rel=>exact⟨j+1,Nat.succ_le_of_lt gz.out,by go_num,Hd ⟨_,_,_,gi.out.1,gi.out.2.1,gi.out.2.2⟩⟩
     case measure =>
      have:=gz.out;simp[intOf];omega
    ·obtain rfl:j=rs.length:=by omega
     have HF:=Hd (HP.out oj wr mj Vj ⟨hh.sat,hh.waits,hh.calls,gk.out.trans hh.chg,hh.many⟩);clear hh hi gd HH gj;go_wp2_with fail;refine bodyPost_end (results_none rfl _ _ _) rfl ?_;exact HF.out
end
open Go.RowKit
section
variable {K:Law}{n:Nat}{Od:List Nat->Prop}{room:Nat}{w0 w w':World}{mb:Nat}{fs:List (Int×BF)}{nx:Int}{o o':Own}{m m':ManD}{V V':Nat->BF}
structure NewH (K:Law)(n:Nat)(Od:List Nat->Prop)(room:Nat)(w0:World)(mb:Nat)(fs:List (Int×BF))(nx:Int)(o:Own)(w:World)(m:ManD)(V:Nat->BF)(F:BF)(o':Own)(w':World)(m':ManD):Prop where
 sat:SatE K n Od room w0 mb (fs++[(nx,F)]) (nx+1) w' o' m' V
 waits:m'.waits=m.waits
 calls:m'.calls=m.calls
 nodes:Zaa m'.d=Zaa m.d
 vars:m'.d.vars=m.d.vars
 many:m'.d.pool.many=m.d.pool.many
 chg:Chg (fun _=>True) o o' w w'
theorem Zrp (hK:Zc8 K)(h:SatE K n Od room w0 mb fs nx w o m V)(hn:nx<549755813888){k:Int}{F:BF}(hk:(k,F)∈fs) :
 Calls prog 114 #[.pointer (some ⟨mb,0,none⟩),.int .i64 k] w fun x w'=>x=.returned (.tuple #[.int .i64 nx,.int .i64 0])/\∃ o' m',NewH K n Od room w0 mb fs nx o w m V F o' w' m':=by
 obtain⟨f,hf,rfl⟩:=h.find hk;obtain⟨s,hs⟩:=h.is;obtain⟨c0,c1,c2,c3,c4,c5,f0⟩:=cells6 hs.blk;have hl:=Zgy hs h.ok.handles.nodup hf;have hnx:=h.next
 have HG:=Hd (Znr hK h.is h.lt h.ok f (h.ok.handles.ok _ hf) (by rw[hnx];omega));have H:=Hd h;rw[hnx] at HG;clear hs h hf hk hnx
 go_enter func114,ntmps114
 go_wp2_with fail;refine HG.out.mono ?_;rintro x w1 ⟨rfl,o',m',hg⟩;have HQ:Hid (NewH K n Od room w0 mb fs nx o w m V (ef V f) o' w1 m'):=Hd ⟨H.out.gave hg,hg.waits,hg.calls,hg.nodes,hg.vars,hg.many,hg.chg⟩;clear hg;go_wp2_with fail
 go_ret2
 exact⟨rfl,_,_,HQ.out⟩
theorem Yc6 {N:Nat->Option BN}{e:Nat}(h:okE N e):okE N (enot e):=by
 unfold okE at h ⊢;rw[Zek];exact h
theorem Zuj (hK:Zc8 K)(h:SatE K n Od room w0 mb fs nx w o m V)(hn:nx<549755813888){k:Int}{F:BF}(hk:(k,F)∈fs) :
 Calls prog 117 #[.pointer (some ⟨mb,0,none⟩),.int .i64 k] w fun x w'=>x=.returned (.tuple #[.int .i64 nx,.int .i64 0])/\∃ o' m',NewH K n Od room w0 mb fs nx o w m V (fun ρ => !F ρ) o' w' m':=by
 obtain⟨f,hf,rfl⟩:=h.find hk;obtain⟨s,hs⟩:=h.is;obtain⟨c0,c1,c2,c3,c4,c5,f0⟩:=cells6 hs.blk;have hl:=Zgy hs h.ok.handles.nodup hf;have hnx:=h.next
 have g0:=h.ok.handles.ok _ hf;have g1:f<eMax:=by
  obtain⟨s2,h2⟩:=hs.store;have:=h2.edge_lt g0;unfold eMax;omega
 have HG:=Hd (Znr hK h.is h.lt h.ok (enot f) (Yc6 g0) (by rw[hnx];omega));have g2:=Hd (Zrw f w g1);have H:=Hd h;rw[hnx] at HG;clear hs h hf hk hnx g0 g1
 go_enter func117,ntmps117
 go_wp2_with fail;refine g2.out.mono ?_;rintro x w1 ⟨rfl,rfl⟩;go_wp2_with fail;refine HG.out.mono ?_;rintro x w1 ⟨rfl,o',m',hg⟩
 have HQ:Hid (NewH K n Od room w0 mb fs nx o w m V (fun ρ => !ef V f ρ) o' w1 m'):=Hd (by
  have e:(fun ρ => !ef V f ρ)=ef V (enot f):=by funext ρ;rw[Zhr]
  rw[e];exact⟨H.out.gave hg,hg.waits,hg.calls,hg.nodes,hg.vars,hg.many,hg.chg⟩)
 clear hg;go_wp2_with fail
 go_ret2
 exact⟨rfl,_,_,HQ.out⟩
theorem Zpu (h:SatE K n Od room w0 mb fs nx w o m V){k:Int}{F:BF}(hk:(k,F)∈fs) :
 Calls prog 20 #[.pointer (some ⟨mb,0,none⟩),.int .i64 k] w fun x w'=>x=.returned (.bool true)/\w=w':=by
 obtain⟨f,hf,rfl⟩:=h.find hk;obtain⟨s,hs⟩:=h.is;obtain⟨c0,c1,c2,c3,c4,c5,f0⟩:=cells6 hs.blk;have hl:=Zgy hs h.ok.handles.nodup hf;clear hs h hf hk
 go_enter func20,ntmps20
 go_wp2_with fail;go_ret;exact⟨rfl,rfl⟩
end
open Go.RowKit
def delK {α:Type}(k:Int)(l:List (Int×α)):List (Int×α):=l.filter fun p=>decide (p.1≠k)
theorem Zkn {α:Type}{k:Int}{l:List (Int×α)}(h:∀ p∈l,p.1≠k):delK k l=l:=by
 unfold delK;rw[List.filter_eq_self];intro p hp;simp[h p hp]
theorem Zft {α:Type}{x:Int×α}{l:List (Int×α)}(h:((x::l).map Prod.fst).Nodup):∀ p∈l,p.1≠x.1:=by
 intro p hp e;rw[List.map_cons,List.nodup_cons] at h;exact h.1 (List.mem_map.2 ⟨p,hp,e⟩)
theorem Zjg {α:Type}{x:Int×α}{l:List (Int×α)}(h:((x::l).map Prod.fst).Nodup):delK x.1 (x::l)=l:=by
 have h1:=Zkn (Zft h);unfold delK at h1 ⊢;rw[List.filter_cons_of_neg (by simp),h1]
theorem Zjh {α:Type}{k:Int}{x:Int×α}{l:List (Int×α)}(h:x.1≠k):delK k (x::l)=x::delK k l:=by
 unfold delK;rw[List.filter_cons_of_pos (by simp[h])]
theorem Zh7 {α:Type}{k:Int}:∀ (l:List (Int×α)) (j:Nat) (hj:j<l.length),(l.map Prod.fst).Nodup->l[j].1=k->l.eraseIdx j=delK k l
 | x::l,0,_,hn,hk=>by
   have e:x.1=k:=hk;subst e;rw[Zjg hn];rfl
 | x::l,j+1,hj,hn,hk=>by
   have hj':j<l.length:=by simpa using hj
   have g0:l[j].1=k:=by simpa using hk
   have hx:x.1≠k:=by
    intro e;exact Zft hn l[j] (List.getElem_mem hj') (g0.trans e.symm)
   have g1:(l.map Prod.fst).Nodup:=by rw[List.map_cons,List.nodup_cons] at hn;exact hn.2
   rw[Zjh hx,List.eraseIdx_cons_succ,Zh7 l j hj' g1 g0]
theorem Zsh {α β:Type}(k:Int)(l:List (Int×α))(g:Int×α->Int×β)(hg:∀ p,(g p).1=p.1):(delK k l).map g=delK k (l.map g):=by
 unfold delK;rw[List.filter_map];congr 1;refine List.filter_congr fun p _=>?_
 simp[hg]
theorem Ycf {k:Int}{l:List (Int×Value)}(hn:(l.map Prod.fst).Nodup){v:Value}(hk:(k,v)∈l):delL k l=delK k l:=by
 unfold delL;cases e:Zch k l 0 with
 | none =>
   have h1:=Zdb hn hk;unfold getL at h1;rw[e] at h1;cases h1
 | some p =>
   obtain⟨j,u⟩:=p;have h2:=Zcu e;obtain⟨q,h3,h4⟩:=h2;have hq:j=q:=by omega
   subst hq;obtain⟨h5,h6⟩:=List.getElem?_eq_some_iff.1 h4;exact Zh7 l j h5 hn (by rw[h6])
theorem Zj1 {α:Type}{k:Int}{l:List (Int×α)}{p:Int×α}:p∈delK k l↔p∈l/\p.1≠k:=by
 unfold delK;rw[List.mem_filter];simp
theorem Zs6 {k:Int}{f:Nat}(h1:1<k):∀ (hs:List (Int×Nat)),(hs.map Prod.fst).Nodup->(k,f)∈hs->∀ i,Zbx hs i=Zbx (delK k hs) i+(if f/2=i then 1 else 0)
 | [],_,h,_=>by cases h
 | x::l,hn,hm,i=>by
   have hn':(l.map Prod.fst).Nodup:=by rw[List.map_cons,List.nodup_cons] at hn;exact hn.2
   by_cases e:x.1=k
   ·have hx:x=(k,f):=by
     rcases List.mem_cons.1 hm with h|h
     . exact h.symm
     . exact((Zft hn _ h) e.symm).elim
    subst hx;rw[Zjg hn];unfold Zbx
    by_cases e2:f/2=i
    . rw[List.filter_cons_of_pos (by simp[h1,e2]),List.length_cons,if_pos e2]
    . rw[List.filter_cons_of_neg (by simp[e2]),if_neg e2];rfl
   ·have g0:(k,f)∈l:=by
     rcases List.mem_cons.1 hm with h|h
     . rw[<- h] at e;exact(e rfl).elim
     . exact h
    have ih:=Zs6 h1 l hn' g0 i;rw[Zjh e];unfold Zbx at ih ⊢
    by_cases e3:(decide (1<x.1)&&x.2/2 == i)=true
    . rw[List.filter_cons_of_pos (p:=fun p:Int×Nat=>decide (1<p.1)&&p.2/2 == i) e3,List.filter_cons_of_pos (p:=fun p:Int×Nat=>decide (1<p.1)&&p.2/2 == i) e3,List.length_cons,List.length_cons];omega
    . rw[List.filter_cons_of_neg (p:=fun p:Int×Nat=>decide (1<p.1)&&p.2/2 == i) e3,List.filter_cons_of_neg (p:=fun p:Int×Nat=>decide (1<p.1)&&p.2/2 == i) e3];exact ih
theorem Zpd {m:ManD}{d':Zad}{k:Int}{f:Nat}(h:Zb1 m)(r:Zf4 m.d d' f (-1))(hk:(k,f)∈m.hs)(h1:1<k)(h0:Zaa m.d 0=none):Zb1 { m with d:=d',hs:=delK k m.hs }:=by
 have g1:∀ {p:Int×Nat},p∈delK k m.hs->p∈m.hs:=fun hp=>(Zj1.1 hp).1
 refine⟨?_,Zj1.2 ⟨h.zero,by dsimp only;omega⟩,Zj1.2 ⟨h.one,by dsimp only;omega⟩,fun p hp=>h.lt p (g1 hp),h.next,fun p hp=>?_,?_,fun i b hb=>?_⟩
 . exact h.nodup.sublist ((List.filter_sublist).map _)
 ·show okE (Zaa d') p.2
  rw[r.nodes];exact h.ok p (g1 hp)
 ·have h2:(delK k m.hs).length<=m.hs.length:=List.length_filter_le _ _;have h3:=h.len
  show ((delK k m.hs).length:Int)<=m.next
  omega
 ·have g0:Zaa m.d i=some b:=by
   have:Zaa d' i=some b:=hb;rw[r.nodes] at this;exact this
  have hi:i≠0:=by rintro rfl;rw[h0] at g0;cases g0
  show Zaw d' i=(Zbx (delK k m.hs) i:Int)
  rw[r.ext i hi,h.refs i b g0,Zs6 h1 m.hs h.nodup hk i];unfold toE;split<;>(simp;try omega)
section
variable {K:Law}{n:Nat}{Od:List Nat->Prop}{room:Nat}{w0 w w':World}{mb:Nat}{fs:List (Int×BF)}{nx:Int}{o o':Own}{m m':ManD}{V V':Nat->BF}
theorem Zqp {sb:Nat}(h:Zar o w sb m.d)(hlt:Zah o w)(hk:Ztr m V){k:Int}{f:Nat}(hf:(k,f)∈m.hs)(h1:1<k)(hn:m.next<549755813888) :
 Calls prog 163 #[.pointer (some ⟨sb,0,none⟩),.int .i64 f] w fun x w'=>x=.returned (.int .i64 0)/\∃ d',Zar o w' sb d'/\Zah o w'/\Zf4 m.d d' f (-1)/\Chg Zap o o w w':=by
 have g0:∀ y b,Zaa m.d y=some b->Zaw m.d y<1099511627776:=fun y b _=>by have:=Ybm hk.handles y;omega
 have g1:=hk.handles.ok _ hf;obtain⟨s,h⟩:=h;have g2:=h.edge_lt g1;rcases g1 with h0|⟨b,hb⟩
 . refine(Zl0 h hlt hk.store.live f (by unfold eMax;omega) h0).mono ?_;rintro e w' ⟨d',h1,h2,h3,h4,h5⟩;exact⟨h1,d',⟨s,h2⟩,h3,h4,h5⟩
 ·have g4:=h.pool.top;have g3:=h.pool.room;refine(Zlz h hlt hk.store.live (Ybj hk.store) f (b:=b) hb g0 ?_ (fun y c hc=>?_)).mono ?_
  . have h2:=hk.handles.refs (enode f) b hb;have h3:0<Zbx m.hs (f/2):=Zs7 hf h1;have h4:Zaw m.d (enode f)=(Zbx m.hs (f/2):Int):=h2;omega
  . have h1:=hk.store.live.cnt.le hc;have h2:=g0 y c hc;omega
  . rintro e w' ⟨d',h1,h2,h3,h4,h5⟩;exact⟨h1,d',⟨s,h2⟩,h3,h4,h5⟩
end
open Go.RowKit
def Zha {α:Type}(l:List (Int×α))(ks:List Int):List (Int×α):=ks.foldl (fun l k=>if 1<k then delK k l else l) l
theorem Zmb {α:Type}{l:List (Int×α)}{ks:List Int}{j:Nat}(hj:j<ks.length):Zha l (ks.take (j+1))=if 1<at0 ks j then delK (at0 ks j) (Zha l (ks.take j)) else Zha l (ks.take j):=by
 unfold Zha;rw[List.take_succ_eq_append_getElem hj,List.foldl_append,Zax hj];rfl
section
variable {K:Law}{n:Nat}{Od:List Nat->Prop}{room:Nat}{w0 w w':World}{mb:Nat}{fs:List (Int×BF)}{nx:Int}{o o':Own}{m m':ManD}{V V':Nat->BF}
structure Zjs (K:Law)(n:Nat)(Od:List Nat->Prop)(room:Nat)(w0:World)(mb:Nat)(fs:List (Int×BF))(nx:Int)(o:Own)(w:World)(m:ManD)(V:Nat->BF)(o':Own)(w':World)(m':ManD):Prop where
 sat:SatE K n Od room w0 mb fs nx w' o' m' V
 waits:m'.waits=m.waits
 calls:m'.calls=m.calls
 nodes:Zaa m'.d=Zaa m.d
 many:m'.d.pool.many=m.d.pool.many
 chg:Chg (fun _=>True) o o' w w'
theorem Zjs.trans {fs' fs'':List (Int×BF)}{o'':Own}{w'':World}{m'':ManD}(h:Zjs K n Od room w0 mb fs' nx o w m V o' w' m')(h':Zjs K n Od room w0 mb fs'' nx o' w' m' V o'' w'' m''):Zjs K n Od room w0 mb fs'' nx o w m V o'' w'' m'' :=
 ⟨h'.sat,h'.waits.trans h.waits,h'.calls.trans h.calls,h'.nodes.trans h.nodes,h'.many.trans h.many,h.chg.trans h'.chg⟩
theorem Zzi (hK:Zc8 K)(h:SatE K n Od room w0 mb fs nx w o m V){k:Int}{f:Nat}(hf:(k,f)∈m.hs)(h1:1<k){s:ManW}(hs:Zby (K m.d V) o w mb m s){w1:World}{d':Zad}(hst:Zar o w1 s.sb d')(hl1:Zah o w1)(hr:Zf4 m.d d' f (-1))(hc1:Chg Zap o o w w1) :
 Zby (K m.d V) o w1 mb { m with d:=d' } s/\∃ w2,(Builtin.delete_ #[98,3] 0 #[.map (some s.hb),.int .i64 k]).run prog w1=.ok (.tuple #[]) w2/\Zjs K n Od room w0 mb (delK k fs) nx o w m V o w2 { m with d:=d',hs:=delK k m.hs }:=by
 have g0:=hs.setStore h.lt hst hc1;refine⟨g0,?_⟩;obtain⟨w2,g3,g5,g1⟩:=g0.map.delete kI underlying98 k 0;refine⟨w2,g3,?_⟩;have he:delL k (encH m.hs)=encH (delK k m.hs):=by
  rw[Ycf (Zeh h.ok.handles.nodup) (v:=.int .i64 (f:Nat)) (List.mem_map.2 ⟨(k,f),hf,rfl⟩)];exact(Zsh k m.hs (fun p=>(p.1,Value.int .i64 (p.2:Nat))) (fun _=>rfl)).symm
 have g4:Zbf w2 s.hb (Value.int .i64) (encH (delK k m.hs)):=by rw[<- he];exact g5
 have g7:=g0.setMap hl1 g4 g1;have g6:Zah o w2:=hl1.mono g1.size;have g2:Chg (fun _=>True) o o w w2:=hc1.any.grown g1 (fun g hg=>by cases hg;exact⟨_,g0.ownh,trivial⟩);refine⟨⟨⟨s,g7.mono fun op a b c r q=>hK.same _ _ _ _ _ _ _ _ hr.vars hr.level hr.nodes q⟩,g6,⟨hr.ok h.ok.store,Zpd h.ok.handles hr hf h1 h.ok.store.dag.none0⟩,?_,?_,?_,h.next,?_,h.chg.lower (ChgX.of_chg g2 NoB) (fun _ e=>e.elim)⟩,rfl,rfl,hr.nodes,hr.many,g2⟩
 ·show d'.vars.length=n
  rw[hr.vars];exact h.vars
 ·show Od d'.vars
  rw[hr.vars];exact h.od
 ·show d'.pool.room=room
  rw[hr.room];exact h.room
 ·show (delK k m.hs).map (fun p=>(p.1,ef V p.2))=delK k fs
  rw[Zsh k m.hs (fun p=>(p.1,ef V p.2)) (fun _=>rfl),h.hs]
theorem Zrq (hK:Zc8 K)(h:SatE K n Od room w0 mb fs nx w o m V)(hn:nx<549755813888){a:Option Addr}{c:Nat}{ks:List Int}(hks:Zav w a ks)(hno:∀ x,a=some x->o x.block=none)
 (hin:∀ j,j<ks.length->∃ F,(at0 ks j,F)∈Zha fs (ks.take j)) :
 Calls prog 118 #[.pointer (some ⟨mb,0,none⟩),.slice a ks.length c] w fun x w'=>x=.returned (.int .i64 0)/\∃ o' m',Zjs K n Od room w0 mb (Zha fs ks) nx o w m V o' w' m':=by
 have gk:=hks.len;have g5:Hid (∃ o' m',Zjs K n Od room w0 mb (Zha fs (ks.take 0)) nx o w m V o' w m'/\Zav w a ks/\(∀ x,a=some x->o' x.block=none)):=Hd ⟨o,m,⟨h,rfl,rfl,rfl,rfl,Chg.refl _ _ _⟩,hks,hno⟩;have gh:=Hd hin;have HN:=Hd hn;have gg:=Hd hK;clear h hn hks hno hin hK
 go_enter func118,ntmps118
 go_wp2_with fail
 go_loopw [13] (fun s13 wr=>∃ j:Nat,j<=ks.length/\s13=.int .i64 j/\Hid (∃ o' m',Zjs K n Od room w0 mb (Zha fs (ks.take j)) nx o w m V o' wr m'/\Zav wr a ks/\(∀ x,a=some x->o' x.block=none))) (fun s13 _=>ks.length-(intOf s13).toNat)
 case atStart=>exact⟨0,Nat.zero_le _,rfl,g5⟩
 case round =>
  obtain⟨j,hj,rfl,HH⟩:=hrel;obtain⟨oj,mj,hh,hi,hno⟩:=HH.out
  by_cases g6:j<ks.length
  ·obtain⟨b,off,rfl,g3⟩:=hi.cells j g6;obtain⟨s,hs⟩:=hh.sat.is;obtain⟨c0,c1,c2,c3,c4,c5,f0⟩:=cells6 hs.blk;have gl:(j:Int)<ks.length:=by omega
   obtain⟨z,hz⟩:∃ z,z=at0 ks j:=⟨_,rfl⟩;obtain⟨F,hF⟩:=gh.out j g6;rw[<- hz] at hF g3;obtain⟨f,hf,gc⟩:=hh.sat.find hF;have hl:=Zgy hs hh.sat.ok.handles.nodup hf;have g8:=Hd hh;have gf:=Hd hi;have g7:=Hd hno;have gi:Hid (b<wr.heap.size):=Hd (Zab g3);have g2:=Hd g6;have HZ:=Hd hz;have HS:=Hd hs;have HF:=Hd hf
   by_cases h1:z>1
   ·have HD:=Hd (Zqp hs.store hh.sat.lt hh.sat.ok hf h1 (by rw[hh.sat.next];exact HN.out));have H1:=Hd h1;clear hh hi hno hs HH g5 hz hF hf gc;go_wp2_with fail;refine HD.out.mono ?_;rintro x w1 ⟨rfl,d',g9,ga,hr,gd⟩;obtain⟨ge,w2,gj,g4⟩:=Zzi gg.out g8.out.sat HF.out H1.out HS.out g9 ga hr gd;obtain⟨e0,e1,e2,e3,e4,e5,g0⟩:=cells6 ge.blk
    have g1:Hid (Zjs K n Od room w0 mb (Zha fs (ks.take (j+1))) nx o w m V oj w2 { mj with d:=d',hs:=delK z mj.hs }/\Zav w2 (some ⟨b,off,none⟩) ks/\(∀ x,some (⟨b,off,none⟩:Addr)=some x->oj x.block=none)):=Hd ⟨by
     rw[Zmb g2.out,<- HZ.out,if_pos H1.out];exact g8.out.trans g4,gf.out.chg g4.chg g7.out,fun x hx=>g4.chg.alien' (by cases hx;exact gi.out) (g7.out x hx)⟩
    clear ge g9 ga hr gd g4 c0 c1 c2 c3 c4 c5 f0 g3 hl;go_wp2_with fail;go_roundw
    case rel=>exact⟨j+1,Nat.succ_le_of_lt g2.out,by go_num,Hd ⟨_,_,g1.out.1,g1.out.2.1,g1.out.2.2⟩⟩
    case measure =>
     have:=g2.out;simp[intOf];omega
   ·have g1:Hid (Zjs K n Od room w0 mb (Zha fs (ks.take (j+1))) nx o w m V oj wr mj/\Zav wr (some ⟨b,off,none⟩) ks/\(∀ x,some (⟨b,off,none⟩:Addr)=some x->oj x.block=none)):=Hd ⟨by
     rw[Zmb g2.out,<- HZ.out,if_neg h1];exact g8.out,gf.out,g7.out⟩
    clear hh hi hno hs HH g5 hz hF hf gc;go_wp2_with fail;go_roundw
    case rel=>exact⟨j+1,Nat.succ_le_of_lt g2.out,by go_num,Hd ⟨_,_,g1.out.1,g1.out.2.1,g1.out.2.2⟩⟩
    case measure =>
     have:=g2.out;simp[intOf];omega
  ·obtain rfl:j=ks.length:=by omega
   have HF:Hid (∃ o' m',Zjs K n Od room w0 mb (Zha fs ks) nx o w m V o' wr m'):=Hd ⟨oj,mj,by rw[List.take_length] at hh;exact hh⟩;clear hh hi hno HH g5;go_wp2_with fail;go_ret;exact⟨rfl,HF.out⟩
end
open Go.RowKit
section
variable {K:Law}{n:Nat}{Od:List Nat->Prop}{room:Nat}{w0 w w':World}{mb:Nat}{fs:List (Int×BF)}{nx:Int}{o o':Own}{m m':ManD}{V V':Nat->BF}
structure Swapped (K:Law)(n room:Nat)(w0:World)(mb:Nat)(fs:List (Int×BF))(nx:Int)(k:Nat)(o:Own)(w:World)(m:ManD)(o':Own)(w':World)(m':ManD)(V':Nat->BF):Prop where
 sat:SatE K n (fun l=>l=(Zee m.d k).vars) room w0 mb fs nx w' o' m' V'
 waits:m'.waits=m.waits
 calls:m'.calls=m.calls
 dead:m'.d.dead=0
 chg:Chg (fun _=>True) o o' w w'
theorem Zmn (h:SatE K n Od room w0 mb fs nx w o m V){k:Nat}(hk1:k+1<n)(hn:nx<=549755813888)(hr:3*(fs.length*2^n)<=room) :
 Calls prog 113 #[.pointer (some ⟨mb,0,none⟩),.int .i64 k] w fun e w'=>e=.returned (.int .i64 0)/\∃ o' m' V',Swapped K n room w0 mb fs nx k o w m o' w' m' V':=by
 refine(Zrt h hk1 hn).mono ?_;rintro e w' ⟨o',m',V',hm⟩;obtain⟨d0,cr,⟨rfl,e1,e2,g0⟩|⟨rfl,so⟩⟩:=hm.way
 . exfalso;have h1:=hm.sat.few (by rw[e1];exact cr.dead);have h2:=hm.sat.room;rw[e1] at h1 h2;omega
 . refine⟨rfl,o',m',V',⟨hm.sat.withOd ?_,hm.waits,hm.calls,so.dead,hm.chg⟩⟩;rw[so.vars];unfold Zee;dsimp only;rw[cr.vars]
end
open Go.RowKit
theorem Zpv {α:Type}{p:Int×α}:∀ {ks:List Int} {l:List (Int×α)},p∈l->p.1∉ks->p∈Zha l ks
 | [],l,h,_=>h
 | k::ks,l,h,hn=>by
   show p∈Zha (if 1<k then delK k l else l) ks
   simp only[List.mem_cons,not_or] at hn;refine Zpv ?_ hn.2;split
   . exact Zj1.2 ⟨h,hn.1⟩
   . exact h
theorem Zzh {α:Type}{l r:List (Int×α)}{p:Int×α}(h:((l++p::r).map Prod.fst).Nodup):delK p.1 (l++p::r)=l++r:=by
 rw[List.map_append,List.map_cons,List.nodup_append] at h;obtain⟨h1,h2,h3⟩:=h;have hl:∀ q∈l,q.1≠p.1:=fun q hq e=>h3 q.1 (List.mem_map.2 ⟨q,hq,rfl⟩) p.1 (List.mem_cons_self ..) e
 have hr:∀ q∈r,q.1≠p.1:=fun q hq e=>(List.nodup_cons.1 h2).1 (List.mem_map.2 ⟨q,hq,e⟩)
 have e1:delK p.1 (l++p::r)=delK p.1 l++delK p.1 r:=by
  unfold delK;rw[List.filter_append,List.filter_cons];simp
 rw[e1,Zkn hl,Zkn hr]
theorem Zo6 {α:Type}:∀ (hs l r:List (Int×α)),((l++(hs++r)).map Prod.fst).Nodup->(∀ p∈hs,1<p.1)->Zha (l++(hs++r)) (hs.map Prod.fst)=l++r
 | [],l,r,_,_=>rfl
 | p::hs,l,r,hn,h1=>by
   show Zha (if 1<p.1 then delK p.1 (l++(p::(hs++r))) else l++(p::(hs++r))) (hs.map Prod.fst)=_
   have hn':((l++p::(hs++r)).map Prod.fst).Nodup:=hn;rw[if_pos (h1 p (List.mem_cons_self ..)),Zzh hn'];refine Zo6 hs l r ?_ (fun q hq=>h1 q (List.mem_cons_of_mem _ hq));have:=hn;rw[List.map_append,List.nodup_append] at this ⊢;obtain⟨q1,q2,q3⟩:=this;exact⟨q1,(List.nodup_cons.1 q2).2,fun x hx y hy=>q3 x hx y (List.mem_cons_of_mem _ hy)⟩
section
variable {K:Law}{n:Nat}{Od:List Nat->Prop}{room:Nat}{w0 w w':World}{mb:Nat}{fs:List (Int×BF)}{nx:Int}{o o':Own}{m m':ManD}{V V':Nat->BF}
theorem SatE.fst (h:SatE K n Od room w0 mb fs nx w o m V):fs.map Prod.fst=m.hs.map Prod.fst:=by rw[<- h.hs,List.map_map];rfl
theorem SatE.nodup (h:SatE K n Od room w0 mb fs nx w o m V):(fs.map Prod.fst).Nodup:=by rw[h.fst];exact h.ok.handles.nodup
theorem SatE.range (h:SatE K n Od room w0 mb fs nx w o m V):∀ p∈fs,0<=p.1/\p.1<nx:=by
 intro p hp;rw[<- h.hs] at hp;obtain⟨q,hq,rfl⟩:=List.mem_map.1 hp;rw[<- h.next];exact h.ok.handles.lt q hq
structure B2 (fs:List (Int×BF)):Prop where
 zero:(0,fun _=>false)∈fs
 one:(1,fun _=>true)∈fs
theorem B2.app {fs:List (Int×BF)}(h:B2 fs)(hs:List (Int×BF)):B2 (fs++hs):=⟨List.mem_append_left _ h.zero,List.mem_append_left _ h.one⟩
theorem SatE.gt {hs:List (Int×BF)}(h:SatE K n Od room w0 mb (fs++hs) nx w o m V)(hb:B2 fs):∀ p∈hs,1<p.1:=by
 intro p hp;have h1:=(h.range p (List.mem_append_right _ hp)).1;have h2:=h.nodup;rw[List.map_append,List.nodup_append] at h2;have h3:=fun k hk=>h2.2.2 k hk p.1 (List.mem_map.2 ⟨p,hp,rfl⟩)
 have h4:=h3 0 (List.mem_map.2 ⟨_,hb.zero,rfl⟩);have h5:=h3 1 (List.mem_map.2 ⟨_,hb.one,rfl⟩);omega
theorem Zrr (hK:Zc8 K){hs r:List (Int×BF)}(h:SatE K n Od room w0 mb (fs++(hs++r)) nx w o m V)(hb:B2 fs)(hn:nx<549755813888){a:Option Addr}{c:Nat}(hks:Zav w a (hs.map Prod.fst))(hno:∀ x,a=some x->o x.block=none) :
 Calls prog 118 #[.pointer (some ⟨mb,0,none⟩),.slice a hs.length c] w fun x w'=>x=.returned (.int .i64 0)/\∃ o' m',Zjs K n Od room w0 mb (fs++r) nx o w m V o' w' m':=by
 have g0:=h.nodup;have g3:=h.gt hb;have e:Zha (fs++(hs++r)) (hs.map Prod.fst)=fs++r:=Zo6 hs fs r g0 (fun p hp=>g3 p (List.mem_append_left _ hp));have:=Zrq hK h hn (c:=c) hks hno fun j hj=>by
  have g1:j<hs.length:=by simpa using hj
  have e1:at0 (hs.map Prod.fst) j=hs[j].1:=by rw[Zax hj];simp
  refine⟨hs[j].2,?_⟩;rw[e1];refine Zpv (List.mem_append_right _ (List.mem_append_left _ (List.getElem_mem g1))) ?_;rw[List.map_append,List.nodup_append,List.map_append,List.nodup_append] at g0;have hh:=g0.2.1.1;intro hc;obtain⟨i,hi,e2⟩:=List.getElem_of_mem hc;have g2:i<j:=by simp at hi;omega
  rw[List.getElem_take] at e2;exact(List.pairwise_iff_getElem.1 hh) i j (by simp;omega) hj g2 (by rw[e2];simp)
 rw[e,List.length_map] at this;exact this
theorem Zp2 {ws0:List Ev}{lim:Option Nat}{k:Nat}{F:BF}{x:Ending}(hp:Zjd K n Od room w0 mb fs nx ws0 lim k F o w x w')(hk:k<=2^n)(hr:(fs.length+1)*2^n<=room) :
 ∃ o' m' V',ChgX NoB o o' w w'/\m'.waits <:+ ws0/\x=.returned (.tuple #[.int .i64 nx,.int .i64 0])/\SatE K n Od room w0 mb (fs++[(nx,F)]) (nx+1) w' o' m' V':=by
 obtain⟨o',m',V',h1,h2,⟨h3,_,h4⟩|⟨_,_,_,m0,⟨W,oo,VV,hs⟩,h5,h6⟩⟩:=hp
 . exact⟨o',m',V',h1,h2,h3,h4⟩
 . exfalso;have:=hs.few h5;rw[Nat.add_mul] at hr;omega
theorem Zmu {M k:Nat}{F:BF}{x:Ending}(hp:Zjd K n Od room w0 mb fs nx [] (some M) k F o w x w') :
 ∃ o' m' V',ChgX NoB o o' w w'/\(m'.waits=[]/\m'.d.pool.many<=M+k)/\x=.returned (.tuple #[.int .i64 nx,.int .i64 0])/\SatE K n Od room w0 mb (fs++[(nx,F)]) (nx+1) w' o' m' V':=by
 obtain⟨o',m',V',h1,h2,⟨h3,h5,h4⟩|⟨_,h,_⟩⟩:=hp
 . exact⟨o',m',V',h1,⟨by simpa using h2,h5 M rfl⟩,h3,h4⟩
 . cases h
end
open Go.RowKit
def cntT:Nat->(Nat->Bool)->Nat
 | 0,_=>0
 | k+1,f=>cntT k f+(if f k then 1 else 0)
theorem Ze9 (k:Nat)(f:Nat->Bool):cntT (k+1) f=cntT k f+(if f k then 1 else 0):=rfl
theorem Zv9 (f:Nat->Bool):∀ k,cntT k f<=k
 | 0=>Nat.le_refl _
 | k+1=>by
   have:=Zv9 f k;rw[Ze9];split<;>omega
def opB (op:Int)(n:Nat)(f:Nat->Bool):Bool :=
 if op=1 then true else if op=4 then decide (cntT n f=0) else if op=5 then decide (cntT n f=n) else if op=6 then decide (0<cntT n f) else if op=7 then decide (cntT n f%2=1)
 else if op=8 then (!f 0||f 1) else if op=9 then decide (cntT n f≠1) else if op=10 then iteB (f 0) (f 1) (f 2) else false
def fnT:ExT->BF
 | .nil=>fun _=>false
 | .mk op v n kid=>fun ρ=>if op=3 then ρ v.toNat else opB op n fun i=>fnT (kid i) ρ
def notF (F:BF):BF:=fun ρ => !F ρ
def Zpm (op:Int)(F G:BF):BF :=
 if op=5 then Zed F G (fun _=>false) else if op=6 then Zed F (fun _=>true) G else if op=8 then Zed F G (fun _=>true) else if op=7 then Zed F (notF G) G else Zed F G (notF G)
def accT (op:Int)(kid:Nat->ExT):Nat->BF
 | 0=>fun _=>decide (op=5)
 | k+1=>Zpm op (accT op kid k) (fnT (kid k))
theorem Ybg (kid:Nat->ExT)(ρ:Nat->Bool):∀ k,accT 5 kid k ρ=decide (cntT k (fun i=>fnT (kid i) ρ)=k)
 | 0=>rfl
 | k+1=>by
   have h1:accT 5 kid (k+1) ρ=iteB (accT 5 kid k ρ) (fnT (kid k) ρ) false:=rfl;have h2:=Zv9 (fun i=>fnT (kid i) ρ) k;rw[h1,Ybg kid ρ k,Ze9];unfold iteB;cases hf:fnT (kid k) ρ
   ·have:(cntT k fun i=>fnT (kid i) ρ)+0≠k+1:=by omega
    simp only[Bool.false_eq_true,if_false,decide_eq_false this];split<;>rfl
   . simp
theorem Ybh (kid:Nat->ExT)(ρ:Nat->Bool):∀ k,accT 6 kid k ρ=decide (0<cntT k (fun i=>fnT (kid i) ρ))
 | 0=>rfl
 | k+1=>by
   have h1:accT 6 kid (k+1) ρ=iteB (accT 6 kid k ρ) true (fnT (kid k) ρ):=rfl;rw[h1,Ybh kid ρ k,Ze9];unfold iteB;cases hf:fnT (kid k) ρ<;>simp
theorem Ybi (kid:Nat->ExT)(ρ:Nat->Bool):∀ k,accT 7 kid k ρ=decide (cntT k (fun i=>fnT (kid i) ρ)%2=1)
 | 0=>rfl
 | k+1=>by
   have h1:accT 7 kid (k+1) ρ=iteB (accT 7 kid k ρ) (!(fnT (kid k) ρ)) (fnT (kid k) ρ):=rfl;rw[h1,Ybi kid ρ k,Ze9];unfold iteB;rcases Nat.mod_two_eq_zero_or_one (cntT k fun i=>fnT (kid i) ρ) with e|e
   . cases hf:fnT (kid k) ρ<;>simp[e]<;>omega
   . cases hf:fnT (kid k) ρ<;>simp[e]<;>omega
theorem Ycp {op:Int}(h:op=5\/op=6\/op=7)(v:Int)(n:Nat)(kid:Nat->ExT):fnT (.mk op v n kid)=accT op kid n:=by
 funext ρ;rcases h with rfl|rfl|rfl
 . rw[Ybg];rfl
 . rw[Ybh];rfl
 . rw[Ybi];rfl
theorem Zsg (f:Nat->Bool):cntT 1 f=if f 0 then 1 else 0:=by rw[Ze9];exact Nat.zero_add _
theorem Zze (f:Nat->Bool):cntT 2 f=(if f 0 then 1 else 0)+(if f 1 then 1 else 0):=by rw[Ze9,Zsg]
theorem Ycr (v:Int)(kid:Nat->ExT):fnT (.mk 4 v 1 kid)=notF (fnT (kid 0)):=by
 funext ρ
 show decide (cntT 1 (fun i=>fnT (kid i) ρ)=0) = !(fnT (kid 0) ρ)
 rw[Bool.eq_iff_iff,decide_eq_true_iff,Zsg];cases fnT (kid 0) ρ<;>simp
theorem Ycq (v:Int)(kid:Nat->ExT):fnT (.mk 10 v 3 kid)=Zed (fnT (kid 0)) (fnT (kid 1)) (fnT (kid 2)):=rfl
theorem Zzl {op:Int}(h:op=8\/op=9)(v:Int)(kid:Nat->ExT):fnT (.mk op v 2 kid)=Zpm op (fnT (kid 0)) (fnT (kid 1)):=by
 funext ρ;rcases h with rfl|rfl
 ·show (!fnT (kid 0) ρ||fnT (kid 1) ρ)=iteB (fnT (kid 0) ρ) (fnT (kid 1) ρ) true
  unfold iteB;cases fnT (kid 0) ρ<;>simp
 ·show decide (cntT 2 (fun i=>fnT (kid i) ρ)≠1)=iteB (fnT (kid 0) ρ) (fnT (kid 1) ρ) (!fnT (kid 1) ρ)
  rw[Bool.eq_iff_iff,decide_eq_true_iff,Zze];unfold iteB;cases fnT (kid 0) ρ<;>cases fnT (kid 1) ρ<;>simp
theorem Zpc {op:Int}(h:op=1\/op=2)(v:Int)(n:Nat)(kid:Nat->ExT):fnT (.mk op v n kid)=fun _=>decide (op=1):=by
 rcases h with rfl|rfl<;>rfl
theorem Ycs (v:Nat)(n:Nat)(kid:Nat->ExT):fnT (.mk 3 v n kid)=varF v:=by
 funext ρ;rfl
def DepF (n:Nat)(F:BF):Prop:=∀ ρ ρ':Nat->Bool,(∀ i,i<n->ρ i=ρ' i)->F ρ=F ρ'
theorem Zpw {f:Nat->List Int}{i:Nat}{x:Int}:∀ {n:Nat},i<n->x∈f i->x∈Zhb n f
 | 0,h,_=>by omega
 | k+1,h,hx=>by
   unfold Zhb;rcases Nat.lt_or_ge i k with h'|h'
   . exact List.mem_append_left _ (Zpw h' hx)
   ·obtain rfl:i=k:=by omega
    exact List.mem_append_right _ hx
theorem Ycb (n:Nat)(ρ:Nat->Bool):∃ i,i<2^n/\∀ v,v<n->bitB i v=ρ v:=by
 induction n with
 | zero=>exact⟨0,by simp,fun v hv=>by omega⟩
 | succ n ih =>
   obtain⟨i,hi,hb⟩:=ih;have hp:0<2^n:=Nat.pow_pos (by omega);refine⟨i+(if ρ n then 2^n else 0),by rw[Nat.pow_succ];split<;>omega,fun v hv=>?_⟩;rcases Nat.lt_or_ge v n with h|h
   ·rw[<- hb v h];unfold bitB;split
    ·obtain⟨k,rfl⟩:∃ k,n=v+(k+1):=⟨n-v-1,by omega⟩;have e1:(2:Nat)^(v+(k+1))=2^v*(2*2^k):=by rw[Nat.pow_add,Nat.pow_succ];ac_rfl
     rw[e1,Nat.add_mul_div_left _ _ (Nat.pow_pos (by omega)),Nat.add_mul_mod_self_left]
    . rw[Nat.add_zero]
   ·obtain rfl:v=n:=by omega
    unfold bitB;cases hr:ρ v with
    | true =>
      rw[if_pos rfl,Nat.add_div_right _ hp,Nat.div_eq_of_lt hi];rfl
    | false =>
      rw[if_neg (by simp),Nat.add_zero,Nat.div_eq_of_lt hi];rfl
theorem Zyw {n:Nat}{F G:BF}(hF:DepF n F)(hG:DepF n G)(h:tabB n F=tabB n G):F=G:=by
 funext ρ;obtain⟨i,hi,hb⟩:=Ycb n ρ;have e:∀ v,v<n->ρ v=Zcn (Zdk i n) v:=fun v hv=>by rw[Zt1,hb v hv];simp[hv]
 rw[hF ρ _ e,hG ρ _ e,<- Zj6 (F:=F) hi,<- Zj6 (F:=G) hi,h]
open Go.RowKit
theorem Zr5 {n:Nat}{f:Nat->Nat}(h1:∀ i,i<n->f i<n)(h2:∀ i j,i<n->j<n->f i=f j->i=j){j:Nat}(hj:j<n):∃ i,i<n/\f i=j:=by
 by_cases h:∃ i,i<n/\f i=j
 . exact h
 exfalso;have g0:∀ i,i<n->f i≠j:=fun i hi e=>h ⟨i,hi,e⟩
 have g1:(j::(List.range n).map f).Nodup:=by
  refine List.nodup_cons.2 ⟨?_,?_⟩
  . intro hm;obtain⟨i,hi,e⟩:=List.mem_map.1 hm;exact g0 i (List.mem_range.1 hi) e
  . refine List.pairwise_map.2 (List.nodup_range.imp_of_mem ?_);intro a b ha hb g2 e;exact g2 (h2 a b (List.mem_range.1 ha) (List.mem_range.1 hb) e)
 have:=Zg0 n _ g1 (fun x hx=>by
  rcases List.mem_cons.1 hx with rfl|hx
  . exact hj
  . obtain⟨i,hi,rfl⟩:=List.mem_map.1 hx;exact h1 i (List.mem_range.1 hi))
 simp at this;omega
theorem Zv8 {zs:List Int}{v:Int}{p:Nat}(h:at0 zs p=v)(hu:∀ i,i<zs.length->at0 zs i=v->i=p):∀ k,k<=zs.length->cntP zs v k=if p<k then 1 else 0
 | 0,_=>by simp[cntP]
 | k+1,hk=>by
   have ih:=Zv8 h hu k (by omega)
   by_cases e:at0 zs k=v
   . have:=hu k (by omega) e;subst this;rw[Zfl (by omega) e,ih];simp
   ·rw[Zrc (by omega) e,ih];have:p≠k:=fun e2=>e (by rw[<- e2];exact h)
    by_cases h3:p<k
    . rw[if_pos h3,if_pos (by omega)]
    . rw[if_neg h3,if_neg (by omega)]
theorem Zf9 {zs:List Int}{v:Int}{i:Nat}:∀ {j:Nat},i<=j->j<=zs.length->cntP zs v i<=cntP zs v j
 | 0,h,_=>by
   obtain rfl:i=0:=by omega
   exact Nat.le_refl _
 | j+1,h,hj=>by
   rcases Nat.lt_or_ge i (j+1) with h'|h'
   ·have:=Zf9 (zs:=zs) (v:=v) (show i<=j by omega) (by omega)
    by_cases e:at0 zs j=v
    . rw[Zfl (by omega) e];omega
    . rw[Zrc (by omega) e];omega
   ·obtain rfl:i=j+1:=by omega
    exact Nat.le_refl _
theorem Zs2 {zs:List Int}{n:Nat}(hl:zs.length=n)(h:∀ v:Nat,v<n->∃ p,p<n/\at0 zs p=(v:Nat))(hu:∀ i j,i<n->j<n->at0 zs i=at0 zs j->i=j):Zfc zs n=true:=by
 subst hl;unfold Zfc;rw[decide_eq_true_eq];refine⟨rfl,fun v hv=>?_⟩;obtain⟨p,hp,e⟩:=h v hv;rw[Zv8 e (fun i hi e2=>hu i p hi hp (e2.trans e.symm)) _ (Nat.le_refl _),if_pos hp]
structure Zvk (zs:List Int)(n:Nat):Prop where
 len:zs.length=n
 lt:∀ i,i<n->∃ v:Nat,v<n/\at0 zs i=(v:Nat)
 inj:∀ i j,i<n->j<n->at0 zs i=at0 zs j->i=j
theorem Zii {zs:List Int}{n:Nat}(h:Zfc zs n=true):Zvk zs n:=by
 unfold Zfc at h;rw[decide_eq_true_eq] at h;obtain⟨h1,h2⟩:=h;have g2:zs.length=n:=by omega
 subst g2;have hp:∀ v:Nat,v<zs.length->∃ p,p<zs.length/\at0 zs p=(v:Nat):=by
  intro v hv;have e:=h2 v hv;unfold cntP at e;rw[List.take_length] at e;have hm:0<(zs.filter (fun z=>decide (z=(v:Int)))).length:=by omega
  obtain⟨z,hz⟩:=List.length_pos_iff_exists_mem.1 hm;obtain⟨q1,q2⟩:=List.mem_filter.1 hz;obtain⟨i,hi,e2⟩:=List.getElem_of_mem q1;refine⟨i,hi,?_⟩;rw[Zax hi,e2];simpa using q2
 have g0:∀ i,i<zs.length->∃ v,v<zs.length/\at0 zs i=(v:Nat):=by
  have hc:∃ f:Nat->Nat,∀ v,v<zs.length->f v<zs.length/\at0 zs (f v)=(v:Nat):=by
   refine⟨fun v=>if hv:v<zs.length then Classical.choose (hp v hv) else 0,fun v hv=>?_⟩;dsimp only;rw[dif_pos hv];exact Classical.choose_spec (hp v hv)
  obtain⟨f,hf⟩:=hc;intro i hi
  obtain⟨v,hv,e⟩:=Zr5 (n:=zs.length) (f:=f) (fun v hv=>(hf v hv).1) (fun a b ha hb e=>by
   have e1:=(hf a ha).2;have e2:=(hf b hb).2;rw[e,e2] at e1;omega) hi
  exact⟨v,hv,by rw[<- e];exact(hf v hv).2⟩
 refine⟨rfl,g0,fun i j hi hj e=>?_⟩;obtain⟨v,hv,ei⟩:=g0 i hi;have ec:=h2 v hv;have ej:at0 zs j=(v:Nat):=by rw[<- e];exact ei
 rcases Nat.lt_trichotomy i j with g1|rfl|g1
 . have a1:=Zfl hi ei;have a2:=Zfl hj ej;have a3:=Zf9 (zs:=zs) (v:=(v:Nat)) (show i+1<=j by omega) (by omega);have a4:=Zf9 (zs:=zs) (v:=(v:Nat)) (show j+1<=zs.length by omega) (Nat.le_refl _);omega
 . rfl
 . have a1:=Zfl hi ei;have a2:=Zfl hj ej;have a3:=Zf9 (zs:=zs) (v:=(v:Nat)) (show j+1<=i by omega) (by omega);have a4:=Zf9 (zs:=zs) (v:=(v:Nat)) (show i+1<=zs.length by omega) (Nat.le_refl _);omega
theorem Zf7 {l:List Nat}{i:Nat}(hi:i<l.length):at0 (l.map Int.ofNat) i=(l.getD i 0:Nat):=by
 rw[Zax (by simpa using hi)];simp[List.getD,hi]
theorem Zak.mem {d:Zad}{V:Nat->BF}(h:Zak d V){v:Nat}(hv:v<d.vars.length):∃ i,i<d.vars.length/\d.vars.getD i 0=v:=⟨levN d v,h.dag.lt v hv,h.inv v hv⟩
theorem Zak.inj {d:Zad}{V:Nat->BF}(h:Zak d V){i j:Nat}(hi:i<d.vars.length)(hj:j<d.vars.length)(e:d.vars.getD i 0=d.vars.getD j 0):i=j:=by
 have a:=(h.vlt i hi).2;have b:=(h.vlt j hj).2;rw[e,b] at a;exact a.symm
theorem Zak.permB {d:Zad}{V:Nat->BF}(h:Zak d V):Go.Proofs.YtkidaindpahefaaGreat.Zfc (d.vars.map Int.ofNat) d.vars.length=true:=by
 refine Zs2 (by simp) (fun v hv=>?_) (fun i j hi hj e=>?_)
 . obtain⟨i,hi,e⟩:=h.mem hv;exact⟨i,hi,by rw[Zf7 hi,e]⟩
 . rw[Zf7 hi,Zf7 hj] at e;exact h.inj hi hj (by omega)
def exL (l:List Nat)(k:Nat):List Nat:=(l.set k (l.getD (k+1) 0)).set (k+1) (l.getD k 0)
theorem Zmg (l:List Nat)(k:Nat):(exL l k).length=l.length:=by simp[exL]
theorem Zsj {l:List Nat}{k:Nat}(h:k+1<l.length):(exL l k).getD k 0=l.getD (k+1) 0:=by
 unfold exL;simp[List.getD,List.getElem?_set,h,show k<l.length by omega]
theorem Zzk {l:List Nat}{k:Nat}(h:k+1<l.length):(exL l k).getD (k+1) 0=l.getD k 0:=by
 unfold exL;simp[List.getD,List.getElem?_set,h]
theorem Ybl {l:List Nat}{k i:Nat}(h1:i≠k)(h2:i≠k+1):(exL l k).getD i 0=l.getD i 0:=by
 unfold exL;simp only[List.getD,List.getElem?_set];rw[if_neg (fun e=>h2 e.symm),if_neg (fun e=>h1 e.symm)]
theorem Zqu (d:Zad)(k:Nat):(Zee d k).vars=exL d.vars k:=rfl
open Go.RowKit
structure LawT (K:Law)(n:Nat)(Od:List Nat->Prop)(room:Nat)(w0:World)(mb:Nat)(fs:List (Int×BF))(nx:Int)(Wt:List Ev->Int->Prop)(hl hx:List (Int×BF))(W:World)(o:Own)(m:ManD)(V:Nat->BF)(vl vx:Value):Prop where
 sat:SatE K n Od room w0 mb fs nx W o m V
 b2:B2 fs
 st:Wt m.waits m.calls
 l:LawL W o w0.heap.size vl (hl.map Prod.fst)
 x:LawX W o w0.heap.size vx (hx.map fun p=>tabB n p.2)
section
variable {K:Law}{n:Nat}{Od:List Nat->Prop}{room:Nat}{w0:World}{mb:Nat}{fs:List (Int×BF)}{nx:Int}{Wt:List Ev->Int->Prop}{hl hx hs:List (Int×BF)}{W W' w:World}{o o':Own}{m m':ManD}{V V':Nat->BF}{vl vx v' v:Value}{p:Int×BF}
theorem LawT.below (h:LawT K n Od room w0 mb fs nx Wt hl hx W o m V vl vx)(hb:Below W.heap.size W W'):LawT K n Od room w0 mb fs nx Wt hl hx W' o m V vl vx :=
 ⟨h.sat.below hb,h.b2,h.st,h.l.chg (Zc2 hb o),h.x.chg (Zc2 hb o)⟩
theorem LawT.below0 (h:LawT K n Od room w0 mb fs nx Wt hl hx W o m V vl vx):Below w0.heap.size w0 W:=h.sat.chg.below0
theorem LawT.go {Od':List Nat->Prop}{fs':List (Int×BF)}{nx':Int}{Wt':List Ev->Int->Prop}(h:LawT K n Od room w0 mb fs nx Wt hl hx W o m V vl vx)(hs:SatE K n Od' room w0 mb fs' nx' W' o' m' V')(hb:B2 fs')(ht:Wt' m'.waits m'.calls)(hc:ChgX NoB o o' W W') :
 LawT K n Od' room w0 mb fs' nx' Wt' hl hx W' o' m' V' vl vx:=⟨hs,hb,ht,h.l.chg hc,h.x.chg hc⟩
theorem LawT.withOd {Od':List Nat->Prop}(h:LawT K n Od room w0 mb fs nx Wt hl hx W o m V vl vx)(hO:Od' m.d.vars):LawT K n Od' room w0 mb fs nx Wt hl hx W o m V vl vx:=⟨h.sat.withOd hO,h.b2,h.st,h.l,h.x⟩
theorem LawT.withSt {Wt':List Ev->Int->Prop}(h:LawT K n Od room w0 mb fs nx Wt hl hx W o m V vl vx)(hO:Wt' m.waits m.calls):LawT K n Od room w0 mb fs nx Wt' hl hx W o m V vl vx:=⟨h.sat,h.b2,hO,h.l,h.x⟩
theorem LawT.appL (h:LawT K n Od room w0 mb fs nx Wt hl hx W o m V vl vx)(hown:OwnC 3 W' w0.heap.size v' (Za0 (hl.map Prod.fst)++[.int .i64 p.1]))(e1:W'.os=W.os)(e2:W'.tape=W.tape)(e3:W'.output=W.output)(e4:W.heap.size<=W'.heap.size)(hk:Zc0 vl v' W W') :
 LawT K n Od room w0 mb fs nx Wt (hl++[p]) hx W' o m V v' vx:=by
 have hw:=Zq2 e1 e2 e3 e4 hk;refine⟨h.sat.other hw (fun k _ hk=>⟨(h.l.own.lt k hk).1,h.l.no k hk⟩),h.b2,h.st,?_,h.x.typ hw (by decide) (by decide) h.l.own.typed⟩;rw[List.map_append];exact h.l.app h.sat.lt hown hk
theorem LawT.appX {bs:List Bool}(h:LawT K n Od room w0 mb fs nx Wt hl hx W o m V vl vx)(hb:LawB W o w0.heap.size v bs)(hbs:bs=tabB n p.2){rs:List Value}(hrs:rs.length=hx.length)(hrow:OwnC 90 W w0.heap.size vx rs)(hall:∀ i v,rs[i]?=some v->LawB W o w0.heap.size v ((hx.map fun p=>tabB n p.2).getD i []))
 (hown:OwnC 90 W' w0.heap.size v' (rs++[v])) (e1:W'.os=W.os) (e2:W'.tape=W.tape) (e3:W'.output=W.output) (e4:W.heap.size<=W'.heap.size) (hk:Zc0 vx v' W W'):LawT K n Od room w0 mb fs nx Wt hl (hx++[p]) W' o m V vl v':=by
 have hw:=Zq2 e1 e2 e3 e4 hk;refine⟨h.sat.other hw (fun k _ hk=>⟨(hrow.lt k hk).1,h.x.no k hk⟩),h.b2,h.st,h.l.typ hw (by decide) hrow.typed,?_⟩;rw[List.map_append];have:=h.x.app h.sat.lt (by simp[hrs]) hall hw hrow.typed hb hown hk;rw[hbs] at this;exact this
end
open Go.RowKit
end Go.Proofs.YtkidaindpahefaaGreat

namespace Go.Proofs.YtkidaindpahefaaGreat
open Go.Proofs.Tryz
open Go.RowKit
open Go.RowKit
open Go.RowKit
end Go.Proofs.YtkidaindpahefaaGreat

namespace Go.Proofs.YtkidaindpahefaaGreat
open Go.Proofs.Tryz
open Go.RowKit
theorem Zgx (W:World)(zs:List Int)(hl:zs.length<=1000000):Zav (W.alloc (.cells (Za0 zs).toArray 3)) (some ⟨W.heap.size,0,none⟩) zs :=
 ⟨by omega,fun k hk=>⟨W.heap.size,0,rfl,by
  rw[Nat.zero_add,cell_of_row _ _ k _ _ _ (heap_alloc_new _ _)];simp[Za0,Zax hk,hk]⟩⟩
section
variable {K:Law}{n:Nat}{Od:List Nat->Prop}{room:Nat}{w0 w w':World}{mb:Nat}{fs:List (Int×BF)}{nx:Int}{o o':Own}{m m':ManD}{V V':Nat->BF}
def Goes (K:Law)(n:Nat)(Od:List Nat->Prop)(room:Nat)(w0:World)(mb:Nat)(fs:List (Int×BF))(nx:Int)(Wt:List Ev->Int->Nat->Prop)(o:Own)(w w':World):Prop :=
 ∃ o' m' V',ChgX NoB o o' w w'/\Wt m'.waits m'.calls m'.d.pool.many/\SatE K n Od room w0 mb fs nx w' o' m' V'
def NoW (M:Nat)(ws:List Ev)(_:Int)(k:Nat):Prop:=ws=[]/\k<=M
abbrev W2 (Wt:List Ev->Int->Prop):List Ev->Int->Nat->Prop:=fun ws c _=>Wt ws c
theorem Goes.more {M M':Nat}(h:Goes K n Od room w0 mb fs nx (NoW M) o w w')(hm:M<=M'):Goes K n Od room w0 mb fs nx (NoW M') o w w':=by
 obtain⟨o',m',V',h1,h2,h3⟩:=h;exact⟨o',m',V',h1,⟨h2.1,Nat.le_trans h2.2 hm⟩,h3⟩
theorem Goes.below {Wt:List Ev->Int->Nat->Prop}{w'':World}(h:Goes K n Od room w0 mb fs nx Wt o w w')(hb:Below w'.heap.size w' w''):Goes K n Od room w0 mb fs nx Wt o w w'':=by
 obtain⟨o',m',V',h1,h2,h3⟩:=h;exact⟨o',m',V',h1.trans (Zc2 hb o') (fun _ _ e=>e),h2,h3.below hb⟩
theorem Zw0 (hK:Zc8 K){M:Nat}(h:Goes K n Od room w0 mb fs nx (NoW M) o w w')(hn:nx<549755813888)(hr:M+(2^n-1)<=room){kf kg kh:Int}{F G H:BF}(hf:(kf,F)∈fs)(hg:(kg,G)∈fs)(hh:(kh,H)∈fs) :
 Calls prog 94 #[.pointer (some ⟨mb,0,none⟩),.int .i64 kf,.int .i64 kg,.int .i64 kh] w' fun x w''=>x=.returned (.tuple #[.int .i64 nx,.int .i64 0])/\Goes K n Od room w0 mb (fs++[(nx,Zed F G H)]) (nx+1) (NoW (M+(2^n-1))) o w w'':=by
 obtain⟨o',m',V',h1,h2,h3⟩:=h;refine(Zmm hK h3 [] (by rw[h2.1];exact List.suffix_refl _) (some M) (fun _ e=>by cases e;exact⟨rfl,hr⟩) (fun _ e=>by cases e;exact h2.2) (by simp) (by omega) hf hg hh).mono ?_;rintro x w'' hp;obtain⟨o2,m2,V2,q1,q2,q3,q4⟩:=Zmu hp;exact⟨q3,o2,m2,V2,h1.trans q1 (fun _ _ e=>e),q2,q4⟩
theorem Yeb (hK:Zc8 K){M:Nat}(h:Goes K n Od room w0 mb fs nx (NoW M) o w w')(hn:nx<549755813888)(hr:M+1<=room){v:Nat}(hv:v<n) :
 Calls prog 93 #[.pointer (some ⟨mb,0,none⟩),.int .i64 v] w' fun x w''=>x=.returned (.tuple #[.int .i64 nx,.int .i64 0])/\Goes K n Od room w0 mb (fs++[(nx,varF v)]) (nx+1) (NoW (M+1)) o w w'':=by
 obtain⟨o',m',V',h1,h2,h3⟩:=h;refine(Zmo hK h3 [] (by rw[h2.1];exact List.suffix_refl _) (some M) (fun _ e=>by cases e;exact⟨rfl,hr⟩) (fun _ e=>by cases e;exact h2.2) (by simp) (by omega) v hv).mono ?_;rintro x w'' hp;obtain⟨o2,m2,V2,q1,q2,q3,q4⟩:=Zmu hp;exact⟨q3,o2,m2,V2,h1.trans q1 (fun _ _ e=>e),q2,q4⟩
theorem Ybq (hK:Zc8 K){Wt:List Ev->Int->Nat->Prop}(h:Goes K n Od room w0 mb fs nx Wt o w w')(hn:nx<549755813888){k:Int}{F:BF}(hf:(k,F)∈fs) :
 Calls prog 117 #[.pointer (some ⟨mb,0,none⟩),.int .i64 k] w' fun x w''=>x=.returned (.tuple #[.int .i64 nx,.int .i64 0])/\Goes K n Od room w0 mb (fs++[(nx,notF F)]) (nx+1) Wt o w w'':=by
 obtain⟨o',m',V',h1,h2,h3⟩:=h;refine(Zuj hK h3 hn hf).mono ?_;rintro x w'' ⟨rfl,o2,m2,q⟩;exact⟨rfl,o2,m2,V',h1.trans (ChgX.of_chg q.chg NoB) (fun _ _ e=>e),by rw[q.waits,q.calls,q.many];exact h2,q.sat⟩
theorem Zni (hK:Zc8 K){Wt:List Ev->Int->Nat->Prop}(h:Goes K n Od room w0 mb fs nx Wt o w w')(hn:nx<549755813888){k:Int}{F:BF}(hf:(k,F)∈fs) :
 Calls prog 114 #[.pointer (some ⟨mb,0,none⟩),.int .i64 k] w' fun x w''=>x=.returned (.tuple #[.int .i64 nx,.int .i64 0])/\Goes K n Od room w0 mb (fs++[(nx,F)]) (nx+1) Wt o w w'':=by
 obtain⟨o',m',V',h1,h2,h3⟩:=h;refine(Zrp hK h3 hn hf).mono ?_;rintro x w'' ⟨rfl,o2,m2,q⟩;exact⟨rfl,o2,m2,V',h1.trans (ChgX.of_chg q.chg NoB) (fun _ _ e=>e),by rw[q.waits,q.calls,q.many];exact h2,q.sat⟩
theorem Znk (hK:Zc8 K){Wt:List Ev->Int->Nat->Prop}{hs r:List (Int×BF)}(h:Goes K n Od room w0 mb (fs++(hs++r)) nx Wt o w w')(hb:B2 fs)(hn:nx<549755813888)(hl:hs.length<=1000){T:World}(hT:T=w'.alloc (.cells (Za0 (hs.map Prod.fst)).toArray 3)) :
 Calls prog 118 #[.pointer (some ⟨mb,0,none⟩),.slice (some ⟨w'.heap.size,0,none⟩) hs.length hs.length] T fun x w''=>x=.returned (.int .i64 0)/\Goes K n Od room w0 mb (fs++r) nx Wt o w w'':=by
 obtain⟨o',m',V',h1,h2,h3⟩:=h;subst hT;have g0:=Zae w' (.cells (Za0 (hs.map Prod.fst)).toArray 3);refine(Zrr hK (h3.below g0) hb hn (Zgx w' (hs.map Prod.fst) (by simp;omega)) (fun x hx=>by cases hx;exact h3.lt.none (Nat.le_refl _))).mono ?_;rintro x w'' ⟨rfl,o2,m2,q⟩;exact⟨rfl,o2,m2,V',(h1.trans (Zc2 g0 o') (fun _ _ e=>e)).trans (ChgX.of_chg q.chg NoB) (fun _ _ e=>e),by rw[q.waits,q.calls,q.many];exact h2,q.sat⟩
theorem Zsq (hK:Zc8 K){a b:Int}{F G:BF}{M:Nat}(h:Goes K n Od room w0 mb (fs++[(a,F),(b,G)]) nx (NoW M) o w w')(hb:B2 fs)(hn:nx+2<549755813888)(hr:M+(2^n-1)<=room){op:Int}(h5:5<=op)(h9:op<=9) :
 Calls prog 116 #[.pointer (some ⟨mb,0,none⟩),.int .i64 op,.int .i64 a,.int .i64 b] w' fun x w''=>∃ k:Int,x=.returned (.tuple #[.int .i64 k,.bool true])/\k<=nx+1/\Goes K n Od room w0 mb (fs++[(k,Zpm op F G)]) (k+1) (NoW (M+(2^n-1))) o w w'':=by
 obtain⟨M',ga⟩:∃ M',M'=M+(2^n-1):=⟨_,rfl⟩;have g5:Hid (∀ c d e A B C,(c,A)∈fs++[(a,F),(b,G)]->(d,B)∈fs++[(a,F),(b,G)]->(e,C)∈fs++[(a,F),(b,G)]->Calls prog 94 #[.pointer (some ⟨mb,0,none⟩),.int .i64 c,.int .i64 d,.int .i64 e] w' fun x w''=>x=.returned (.tuple #[.int .i64 nx,.int .i64 0])/\Goes K n Od room w0 mb (fs++[(a,F),(b,G)]++[(nx,Zed A B C)]) (nx+1) (NoW (M+(2^n-1))) o w w'') :=
  Hd fun c d e A B C h1 h2 h3=>Zw0 hK h (by omega) hr h1 h2 h3
 have g6:=Hd (Ybq hK h (by omega) (k:=b) (F:=G) (by simp))
 have g0:Hid (∀ W,Goes K n Od room w0 mb (fs++[(a,F),(b,G)]++[(nx,notF G)]) (nx+1) (NoW M) o w W->∀ c d e A B C,(c,A)∈fs++[(a,F),(b,G)]++[(nx,notF G)]->(d,B)∈fs++[(a,F),(b,G)]++[(nx,notF G)]->(e,C)∈fs++[(a,F),(b,G)]++[(nx,notF G)] ->
  Calls prog 94 #[.pointer (some ⟨mb,0,none⟩),.int .i64 c,.int .i64 d,.int .i64 e] W fun x w''=>x=.returned (.tuple #[.int .i64 (nx+1),.int .i64 0])/\Goes K n Od room w0 mb (fs++[(a,F),(b,G)]++[(nx,notF G)]++[(nx+1,Zed A B C)]) (nx+1+1) (NoW (M+(2^n-1))) o w w'') :=
  Hd fun W hW c d e A B C h1 h2 h3=>Zw0 hK hW (by omega) hr h1 h2 h3
 have g7:Hid (∀ W H T,Goes K n Od room w0 mb (fs++[(a,F),(b,G)]++[(nx,notF G)]++[(nx+1,H)]) (nx+1+1) (NoW M') o w W->T=W.alloc (.cells #[.int .i64 nx] 3)->Calls prog 118 #[.pointer (some ⟨mb,0,none⟩),.slice (some ⟨W.heap.size,0,none⟩) 1 1] T fun x w''=>x=.returned (.int .i64 0)/\Goes K n Od room w0 mb (fs++[(a,F),(b,G)]++[(nx+1,H)]) (nx+1+1) (NoW M') o w w'') :=
  Hd fun W H T hW hT=>Znk hK (hs:=[(nx,notF G)]) (r:=[(nx+1,H)]) (by rw[List.append_assoc] at hW;exact hW) (hb.app _) (by omega) (by simp) hT
 have g8:Hid (∀ W k H T,k+1<549755813888->Goes K n Od room w0 mb (fs++[(a,F),(b,G)]++[(k,H)]) (k+1) (NoW M') o w W->T=W.alloc (.cells #[.int .i64 a,.int .i64 b] 3)->Calls prog 118 #[.pointer (some ⟨mb,0,none⟩),.slice (some ⟨W.heap.size,0,none⟩) 2 2] T fun x w''=>x=.returned (.int .i64 0)/\Goes K n Od room w0 mb (fs++[(k,H)]) (k+1) (NoW M') o w w'') :=
  Hd fun W k H T hk hW hT=>Znk hK (hs:=[(a,F),(b,G)]) (r:=[(k,H)]) (by rw[List.append_assoc] at hW;exact hW) hb (by omega) (by simp) hT
 have m0:(0,fun _=>false)∈fs++[(a,F),(b,G)]:=List.mem_append_left _ hb.zero;have m1:(1,fun _=>true)∈fs++[(a,F),(b,G)]:=List.mem_append_left _ hb.one;have ma:(a,F)∈fs++[(a,F),(b,G)]:=by simp
 have mb':(b,G)∈fs++[(a,F),(b,G)]:=by simp
 have pa:(a,F)∈fs++[(a,F),(b,G)]++[(nx,notF G)]:=by simp
 have pb:(b,G)∈fs++[(a,F),(b,G)]++[(nx,notF G)]:=by simp
 have pn:(nx,notF G)∈fs++[(a,F),(b,G)]++[(nx,notF G)]:=by simp
 rw[<- ga] at g5 g0 ⊢;clear h hb hr hK ga;rcases(show op=5\/op=6\/op=7\/op=8\/op=9 by omega) with rfl|rfl|rfl|rfl|rfl
 ·have HI:=Hd (g5.out a b 0 _ _ _ ma mb' m0);clear g5 g0 g6 g7
  go_enter func116,ntmps116
  go_wp2_with fail;refine HI.out.mono ?_;rintro x w1 ⟨rfl,g1⟩;have HD:=Hd (g8.out w1 nx _ _ (by omega) g1 rfl);clear g1 HI;go_wp2_with fail;refine HD.out.mono ?_;rintro x w2 ⟨rfl,g2⟩;have HG:=Hd g2;clear g2 HD;go_wp2_with fail
  go_ret2
  exact⟨nx,rfl,by omega,HG.out⟩
 ·have HI:=Hd (g5.out a 1 b _ _ _ ma m1 mb');clear g5 g0 g6 g7
  go_enter func116,ntmps116
  go_wp2_with fail;refine HI.out.mono ?_;rintro x w1 ⟨rfl,g1⟩;have HD:=Hd (g8.out w1 nx _ _ (by omega) g1 rfl);clear g1 HI;go_wp2_with fail;refine HD.out.mono ?_;rintro x w2 ⟨rfl,g2⟩;have HG:=Hd g2;clear g2 HD;go_wp2_with fail
  go_ret2
  exact⟨nx,rfl,by omega,HG.out⟩
 ·clear g5
  go_enter func116,ntmps116
  go_wp2_with fail;refine g6.out.mono ?_;rintro x w1 ⟨rfl,g1⟩;have HI:=Hd (g0.out w1 g1 a nx b _ _ _ pa pn pb);clear g1 g6 g0;go_wp2_with fail;refine HI.out.mono ?_;rintro x w2 ⟨rfl,g2⟩;have g9:=Hd (g7.out w2 _ _ g2 rfl);clear g2 HI g7;go_wp2_with fail;refine g9.out.mono ?_;rintro x w3 ⟨rfl,g3⟩;have HD:=Hd (g8.out w3 (nx+1) _ _ (by omega) g3 rfl);clear g3 g9;go_wp2_with fail;refine HD.out.mono ?_;rintro x w4 ⟨rfl,g4⟩;have HG:=Hd g4;clear g4 HD;go_wp2_with fail
  go_ret2
  exact⟨nx+1,rfl,by omega,HG.out⟩
 ·have HI:=Hd (g5.out a b 1 _ _ _ ma mb' m1);clear g5 g0 g6 g7
  go_enter func116,ntmps116
  go_wp2_with fail;refine HI.out.mono ?_;rintro x w1 ⟨rfl,g1⟩;have HD:=Hd (g8.out w1 nx _ _ (by omega) g1 rfl);clear g1 HI;go_wp2_with fail;refine HD.out.mono ?_;rintro x w2 ⟨rfl,g2⟩;have HG:=Hd g2;clear g2 HD;go_wp2_with fail
  go_ret2
  exact⟨nx,rfl,by omega,HG.out⟩
 ·clear g5
  go_enter func116,ntmps116
  go_wp2_with fail;refine g6.out.mono ?_;rintro x w1 ⟨rfl,g1⟩;have HI:=Hd (g0.out w1 g1 a b nx _ _ _ pa pb pn);clear g1 g6 g0;go_wp2_with fail;refine HI.out.mono ?_;rintro x w2 ⟨rfl,g2⟩;have g9:=Hd (g7.out w2 _ _ g2 rfl);clear g2 HI g7;go_wp2_with fail;refine g9.out.mono ?_;rintro x w3 ⟨rfl,g3⟩;have HD:=Hd (g8.out w3 (nx+1) _ _ (by omega) g3 rfl);clear g3 g9;go_wp2_with fail;refine HD.out.mono ?_;rintro x w4 ⟨rfl,g4⟩;have HG:=Hd g4;clear g4 HD;go_wp2_with fail
  go_ret2
  exact⟨nx+1,rfl,by omega,HG.out⟩
end
open Go.RowKit
theorem Zw2 {op:Int}(h:0<=(Zel op).1):1<=op/\op<=10/\(Zel op).2<=64:=by
 unfold Zel at h ⊢;split
 . rename_i h1;exact⟨by omega,by omega,by simp⟩
 ·split
  . rename_i h1;exact⟨by omega,by omega,by simp⟩
  ·split
   . rename_i h1;exact⟨by omega,by omega,by simp⟩
   ·split
    . rename_i h1;exact⟨by omega,by omega,by simp⟩
    ·split
     . rename_i h1;exact⟨by omega,by omega,by simp⟩
     . exfalso;revert h;simp_all
theorem Zmz (f:Nat->Bool)(i:Nat):(List.range (i+1)).map f=(List.range i).map f++[f i]:=by simp[List.range_succ]
theorem Zhn (l:List Bool)(b:Bool):Zbu (l++[b])=Zbu l++[.bool b]:=by simp[Zbu]
theorem tmod2 (c:Nat):((c:Int).tmod 2 == 1)=decide (c%2=1):=by
 have e1:Int.tmod (c:Int) 2=((c%2:Nat):Int):=by rw[Int.tmod_eq_emod_of_nonneg (by omega)];rfl
 rw[e1]
 by_cases h:c%2=1
 . rw[h];rfl
 ·have:((c%2:Nat):Int)≠1:=by omega
  rw[beq_eq_false_iff_ne.2 this,decide_eq_false h]
theorem Zru (a b:Nat):(((a:Nat):Int) == (b:Int))=decide (a=b):=by
 by_cases h:a=b
 . subst h;simp
 ·have:(a:Int)≠b:=by omega
  rw[beq_eq_false_iff_ne.2 this,decide_eq_false h]
theorem Zll (ls:List Bool)(al:Option Addr)(cl:Nat):∀ (e:ExT) (x:Value) (w:World),Ztk e->Za4 w e x->Zf2 w al ls ->
 Calls prog 119 #[x,.slice al ls.length cl] w fun y w'=>y=.returned (.bool (fnT e (Zcn ls)))/\Below w.heap.size w w'
 | .nil,x,w,hv,h,_=>by unfold Za4 at h;exact h.elim
 | .mk op v n kid,x,w,hval,h,hls=>by
   unfold Za4 at h;obtain⟨a,c,rfl,h2,h3,h4,h5⟩:=h;obtain⟨v1,v2,v3,v4,v5,v6⟩:=hval;obtain⟨k1,k2,k3⟩:=Zw2 v1;have hn64:n<=64:=by omega
   have H5:=Hd h5;have H6:=Hd v6;have gq:=Hd hls;have gH:=hls.len;have HE:Hid (fnT (ExT.mk op v n kid) (Zcn ls)=if op=3 then Zcn ls v.toNat else opB op n fun i=>fnT (kid i) (Zcn ls)):=Hd rfl;have IH:Hid (∀ (i:Nat) (x:Value) (W:World),i<n->Za4 W (kid i) x->Zf2 W al ls->Calls prog 119 #[x,.slice al ls.length cl] W fun y w'=>y=.returned (.bool (fnT (kid i) (Zcn ls)))/\Below W.heap.size W w') :=
    Hd fun i x W hi h1 h2=>Zll ls al cl (kid i) x W (H6.out i hi) h1 h2
   obtain⟨B,hB⟩:∃ B,B=fnT (ExT.mk op v n kid) (Zcn ls):=⟨_,rfl⟩;obtain⟨f,hf⟩:∃ f:Nat->Bool,f=fun i=>fnT (kid i) (Zcn ls):=⟨_,rfl⟩
   have gG:Hid (∀ i,fnT (kid i) (Zcn ls)=f i):=Hd fun i=>by rw[hf]
   rw[<- hB] at HE ⊢;rw[<- hf] at HE;have gB:op=8\/op=9->n=2:=by rintro(rfl|rfl)<;>(simp[Zel] at v4 v5;omega)
   have gA:op=10->n=3:=by rintro rfl;simp[Zel] at v4 v5;omega
   have gI:op=4->n=1:=by rintro rfl;simp[Zel] at v4 v5;omega
   obtain⟨w1,ga⟩:∃ w1,w1=w.alloc (.cells #[.int .i64 op,.int .i64 v,.slice a n c] 79):=⟨_,rfl⟩;have HW1:Hid (_=w1):=Hd ga.symm;have g5:Hid (Below w.heap.size w w1):=by rw[ga];exact Hd (Zae _ _)
   have g6:w1.heap[w.heap.size]?=some (.cells #[.int .i64 op,.int .i64 v,.slice a n c] 79 (0,0)):=by rw[ga];exact heap_alloc_new _ _
   have d0:w1.cell? ⟨w.heap.size,0,none⟩=some (.int .i64 op):=by rw[cell_of_row _ _ 0 _ _ _ g6];rfl
   have d1:w1.cell? ⟨w.heap.size,1,none⟩=some (.int .i64 v):=by rw[cell_of_row _ _ 1 _ _ _ g6];rfl
   have d2:w1.cell? ⟨w.heap.size,2,none⟩=some (.slice a n c):=by rw[cell_of_row _ _ 2 _ _ _ g6];rfl
   unfold okI at h2 h3;obtain⟨w2,gc⟩:∃ w2,w2=w1.alloc (.cells #[] 4):=⟨_,rfl⟩;have gD:Hid (_=w2):=Hd gc.symm;have HB2:Hid (Below w1.heap.size w1 w2):=by rw[gc];exact Hd (Zae _ _)
   have gg:Hid (OwnB w2 w1.heap.size (.slice (some ⟨w1.heap.size,0,none⟩) 0 0) []):=by rw[gc];exact Hd (Zfu _ _ _ (Nat.le_refl _))
   have hs1:w1.heap.size=w.heap.size+1:=by rw[ga];simp
   rw[hs1] at gg;clear h5 ga gc g6 hf hB v1 v4 v5 v6 hls
   go_enter func119,ntmps119
   go_upto_region 1 with fail;rw[HW1.out];go_upto_region 3 with fail;rw[gD.out];have gy:w1.heap.size<=w2.heap.size:=HB2.out.size;have d0':=(HB2.out.cell (p:=⟨w.heap.size,0,none⟩) (Zab d0)).trans d0;have d1':=(HB2.out.cell (p:=⟨w.heap.size,1,none⟩) (Zab d1)).trans d1;have d2':=(HB2.out.cell (p:=⟨w.heap.size,2,none⟩) (Zab d2)).trans d2;go_wp2_with fail
   go_loopw [5,6,7,8] (fun s5 s6 s7 s8 wr=>∃ i k:Nat,i<=n/\k<=i/\s5=.int .i64 k/\s7=.int .i64 i/\Hid (k=cntT i f)/\Below w1.heap.size w1 wr/\OwnB wr w1.heap.size s6 ((List.range i).map f)/\w1.heap.size<=wr.heap.size) (fun _ _ s7 _ _=>n-(intOf s7).toNat)
   case atStart=>exact⟨0,0,Nat.zero_le _,Nat.le_refl _,rfl,rfl,Hd rfl,HB2.out,by rw[hs1];exact gg.out,gy⟩
   case round =>
    obtain⟨i,k,hi,gJ,rfl,rfl,HK,g2,g0,gx⟩:=hrel;have e0:=(g2.cell (p:=⟨w.heap.size,0,none⟩) (Zab d0)).trans d0;have e1:=(g2.cell (p:=⟨w.heap.size,1,none⟩) (Zab d1)).trans d1;have e2:=(g2.cell (p:=⟨w.heap.size,2,none⟩) (Zab d2)).trans d2;have g3:=Hd g2;have gE:=Hd g0;clear g2 d0' d1' d2'
    by_cases gz:i<n
    ·clear g0;obtain⟨b,off,x0,x1,x2,rfl,c0,c1,c2,hx⟩:=H5.out i gz;have g4:=g5.out.trans (g3.out.mono g5.out.size);have q0:=(g4.cell (p:=⟨b,off+i*3,none⟩) (Zab c0)).trans c0;have q1:=(g4.cell (p:=⟨b,off+i*3+1,none⟩) (Zab c1)).trans c1;have q2:=(g4.cell (p:=⟨b,off+i*3+2,none⟩) (Zab c2)).trans c2;have HX:=Hd (hx.below g4);have gF:=Hd (gq.out.below g4);have gC:(i:Int)<n:=by omega
     have gt:Hid (∀ y,f i=y->k+(if y then 1 else 0)=cntT (i+1) f):=Hd fun y hy=>by rw[<- hy,HK.out];rfl
     clear c0 c1 c2 hx g4;go_wp2_with fail;refine(IH.out i _ _ (by omega) HX.out gF.out).mono ?_;rintro y w3 ⟨rfl,go⟩;have gj:=Hd go;clear go;go_upto_region 7 with fail;rw[gG.out];obtain⟨y,hy⟩:∃ y,f i=y:=⟨_,rfl⟩;rw[hy];have gr:=Hd (gt.out y hy);have gi:=Hd (gE.out.below gj.out);have gf:w1.heap.size<=w3.heap.size:=Nat.le_trans gx gj.out.size;have gk:=Hd (g3.out.trans (gj.out.mono g3.out.size));have gp:Hid (Zbu ((List.range (i+1)).map f)=Zbu ((List.range i).map f)++[.bool y]):=Hd (by rw[Zmz,Zhn,hy]);clear gt hy q0 q1 q2 e0 e1 e2;go_upto_region 8 with (at_builtin;refine Zcr Zh6 _ rfl _ _ rfl w1.heap.size _ (Zbu ((List.range i).map f)) _ rfl rfl rfl rfl rfl (by exact gi.out) (by simp[Zbu];omega) gf ?_;intro v4 w4 gd q1 q2 q3 q4 gn)
     have gv:=Hd (Zh1 gk.out gi.out q1 q2 q3 q4 gn gf);have gh:=Hd gd;have ge:w1.heap.size<=w4.heap.size:=by omega
     clear gd q1 q2 q3 q4 gn;cases y with
     | true =>
       go_wp2_with fail;go_roundw
       case rel=>exact⟨i+1,k+1,by omega,by omega,by go_num,by go_num,Hd gr.out,gv.out,by unfold OwnB;rw[gp.out];exact gh.out,ge⟩
       case measure=>simp[intOf];omega
     | false =>
       go_wp2_with fail;go_roundw
       case rel=>exact⟨i+1,k,by omega,by omega,by go_num,by go_num,Hd gr.out,gv.out,by unfold OwnB;rw[gp.out];exact gh.out,ge⟩
       case measure=>simp[intOf];omega
    ·have he:i=n:=by omega
     subst he;have gC:¬ (i:Int)<i:=by omega
     have HF:Hid (∀ b:Bool,b=B->Ending.returned (.bool b)=.returned (.bool B)/\Below w.heap.size w wr):=Hd fun b hb=>⟨by rw[hb],g5.out.trans (g3.out.mono g5.out.size)⟩
     have g1:0<i->∃ g cap,u6=.slice (some ⟨g,0,none⟩) i cap/\∀ j,j<i->wr.cell? ⟨g,j,none⟩=some (.bool (f j)):=by
      intro hp;obtain⟨g,cap,e,_⟩:=g0.shape (by simp[Zbu];omega);have e':u6=.slice (some ⟨g,0,none⟩) i cap:=by rw[e];simp[Zbu]
      refine⟨g,cap,e',fun j hj=>?_⟩;rw[e'] at g0;have:=g0.cellB j (by simp;omega);rw[this];simp[List.getD,hj]
     clear g0;rcases(show op=1\/op=2\/op=3\/op=4\/op=5\/op=6\/op=7\/op=8\/op=9\/op=10 by omega) with rfl|rfl|rfl|rfl|rfl|rfl|rfl|rfl|rfl|rfl
     . go_wp2_with fail;go_ret;exact HF.out _ (by rw[HE.out];rfl)
     . go_wp2_with fail;go_ret;exact HF.out _ (by rw[HE.out];rfl)
     ·obtain⟨v5,v6⟩:=v2 rfl;obtain⟨u,rfl⟩:∃ u:Nat,v=(u:Int):=⟨v.toNat,by omega⟩;have gu:Hid (B=Zcn ls u):=Hd (by rw[HE.out];rfl)
      by_cases hu:u<ls.length
      ·obtain⟨bl,ol,rfl,cl0⟩:=(gq.out.below (g5.out.trans (g3.out.mono g5.out.size))).cells u hu;have gw:(u:Int)<ls.length:=by omega
       have g7:Hid (B=ls.getD u false):=gu;obtain⟨yy,gl⟩:∃ yy,yy=ls.getD u false:=⟨_,rfl⟩;rw[<- gl] at cl0 g7;clear gl;go_wp2_with fail;go_ret;exact HF.out _ g7.out.symm
      ·have gw:¬ (u:Int)<ls.length:=by omega
       have g7:Hid (B=false):=Hd (by rw[gu.out];unfold Zcn;simp[List.getD,List.getElem?_eq_none (show ls.length<=u by omega)]);go_wp2_with fail;go_ret;exact HF.out _ g7.out.symm
     . have HV:Hid (((k:Int) == 0)=B):=Hd (by rw[HE.out,HK.out];exact Zru _ 0);go_wp2_with fail;go_ret;exact HF.out _ HV.out
     . have HV:Hid (((k:Int) == (i:Int))=B):=Hd (by rw[HE.out,HK.out];exact Zru _ i);go_wp2_with fail;go_ret;exact HF.out _ HV.out
     ·have HV:Hid (decide (0<k)=B):=Hd (by
       rw[HE.out,HK.out];rfl)
      go_wp2_with fail;go_ret;exact HF.out _ HV.out
     . have HV:Hid (((k:Int).tmod 2 == 1)=B):=Hd (by rw[HE.out,HK.out];exact tmod2 _);go_wp2_with fail;go_ret;exact HF.out _ HV.out
     ·have:=gB (.inl rfl);subst this;obtain⟨g,cap,rfl,hc⟩:=g1 (by omega);have c0:=hc 0 (by omega);have c1:=hc 1 (by omega);have HV:Hid ((!(f 0)||f 1)=B):=Hd (by rw[HE.out];rfl);obtain⟨y0,g9⟩:∃ y,y=f 0:=⟨_,rfl⟩;obtain⟨y1,g8⟩:∃ y,y=f 1:=⟨_,rfl⟩;rw[<- g9] at c0 HV;rw[<- g8] at c1 HV;clear g9 g8 hc g1;cases y0 with
      | true =>
        go_wp2_with fail;go_ret;exact HF.out _ HV.out
      | false =>
        go_wp2_with fail;go_ret;exact HF.out _ HV.out
     ·have HV:Hid (((k:Int) != 1)=B):=Hd (by
       rw[HE.out,HK.out]
       show (!((cntT i f:Int) == ((1:Nat):Int)))=decide (cntT i f≠1)
       rw[Zru]
       by_cases h:cntT i f=1<;>simp[h])
      go_wp2_with fail;go_ret;exact HF.out _ HV.out
     ·have:=gA rfl;subst this;obtain⟨g,cap,rfl,hc⟩:=g1 (by omega);have c0:=hc 0 (by omega);have c1:=hc 1 (by omega);have c2:=hc 2 (by omega);have HV:Hid (iteB (f 0) (f 1) (f 2)=B):=Hd (by rw[HE.out];rfl);obtain⟨y0,g9⟩:∃ y,y=f 0:=⟨_,rfl⟩;obtain⟨y1,g8⟩:∃ y,y=f 1:=⟨_,rfl⟩;obtain⟨y2,gm⟩:∃ y,y=f 2:=⟨_,rfl⟩;rw[<- g9] at c0 HV;rw[<- g8] at c1 HV;rw[<- gm] at c2 HV;clear g9 g8 gm hc g1;cases y0 with
      | true =>
        go_wp2_with fail;go_ret;exact HF.out _ HV.out
      | false =>
        go_wp2_with fail;go_ret;exact HF.out _ HV.out
open Go.RowKit
section
variable {P:Program}{ops:Array Oper}{S:World->Prop}{Q:Exit->Act->World->Prop}{last:Bool}
theorem Zuo {o:Oper}{r:List (Option Oper×Bool)}{a:Act}{w w':World}{v:Value}(hw:Region.wanted o (yielded ops a.tmps)=true)
 (he:(execOp a.eval o).run P w=.ok (.value v) w') (hS:S w') (h:Zb5 P ops Q S last r (a.put o.dst v) w'):Zb5 P ops Q S last ((some o,true)::r) a w:=by
 unfold Zb5;simp only[hw,if_true,Oper.wp,he,Oper.upon];exact⟨.inr hS,h⟩
theorem Zun {o:Oper}{r:List (Option Oper×Bool)}{a:Act}{w:World}{f:FuncId}{args:Array Value}{R:Value->World->Prop}(hw:Region.wanted o (yielded ops a.tmps)=true)
 (he:(execOp a.eval o).run P w=.ok (.enter f args) w) (hc:Calls P f args w fun e w'=>∃ v,e=.returned v/\S w'/\R v w')
 (h:∀ v w',S w'->R v w'->Zb5 P ops Q S last r (a.put o.dst v) w'):Zb5 P ops Q S last ((some o,true)::r) a w:=by
 unfold Zb5;simp only[hw,if_true,Oper.wp,he,Oper.upon];exact hc.mono fun e w' ⟨v,h1,h2,h3⟩=>by subst h1;exact⟨.inr h2,h v w' h2 h3⟩
end
theorem Zgf (mb:Nat)(b:Bool)(w:World):Calls prog 115 #[.pointer (some ⟨mb,0,none⟩),.bool b] w fun x w'=>x=.returned (.int .i64 (if b then 1 else 0))/\w=w':=by
 cases b with
 | true =>
   go_enter func115,ntmps115
   go_wp2_with fail;go_ret;exact⟨rfl,rfl⟩
 | false =>
   go_enter func115,ntmps115
   go_wp2_with fail;go_ret;exact⟨rfl,rfl⟩
theorem Yc0 {α:Type}{l:List α}(h:l.length=2):∃ a b,l=[a,b]:=by
 match l,h with
 | [a,b],_=>exact⟨a,b,rfl⟩
theorem Zxc {α:Type}{l:List α}(h:l.length=3):∃ a b c,l=[a,b,c]:=by
 match l,h with
 | [a,b,c],_=>exact⟨a,b,c,rfl⟩
theorem Ztf {f:Nat->Nat}(h:∀ i,1<=f i):∀ k,k<=sumN k f
 | 0=>Nat.zero_le _
 | k+1=>by
   have:=Ztf h k;have:=h k
   show k+1<=sumN k f+f k
   omega
section
variable {K:Law}{n:Nat}{Od:List Nat->Prop}{room:Nat}{w0 w w' w'':World}{mb:Nat}{fs fs':List (Int×BF)}{nx nx':Int}{o o':Own}{m m':ManD}{V V':Nat->BF}
theorem Goes.refl {M:Nat}(h:SatE K n Od room w0 mb fs nx w o m V)(hw:m.waits=[]/\m.d.pool.many<=M):Goes K n Od room w0 mb fs nx (NoW M) o w w:=⟨o,m,V,ChgX.of_below (Below.refl _ _) o NoB,hw,h⟩
theorem Goes.after {Wt:List Ev->Int->Nat->Prop}(hc:ChgX NoB o o' w w')(g:Goes K n Od room w0 mb fs nx Wt o' w' w''):Goes K n Od room w0 mb fs nx Wt o w w'':=by
 obtain⟨o2,m2,V2,h1,h2,h3⟩:=g;exact⟨o2,m2,V2,hc.trans h1 (fun _ _ e=>e),h2,h3⟩
theorem Goes.cell {Wt:List Ev->Int->Nat->Prop}(g:Goes K n Od room w0 mb fs nx Wt o w w'){p:Addr}{v:Value}(hc:w.cell? p=some v)(hb:o p.block=none):w'.cell? p=some v:=by
 obtain⟨o2,m2,V2,h1,h2,h3⟩:=g;exact h1.cell hc hb (fun e=>e)
theorem Goes.below0 {Wt:List Ev->Int->Nat->Prop}(g:Goes K n Od room w0 mb fs nx Wt o w w'):Below w0.heap.size w0 w':=by
 obtain⟨o2,m2,V2,h1,h2,h3⟩:=g;exact h3.chg.below0
structure BuiT (K:Law)(n:Nat)(Od:List Nat->Prop)(room:Nat)(w0:World)(mb:Nat)(fs:List (Int×BF))(nx:Int)(M:Nat)(o:Own)(w:World)(vl:Value)(ks:List Int)(W:World)(o':Own)(m':ManD)(V':Nat->BF):Prop where
 sat:SatE K n Od room w0 mb fs nx W o' m' V'
 waits:m'.waits=[]/\m'.d.pool.many<=M
 chg:ChgX NoB o o' w W
 l:LawL W o' w.heap.size vl ks
def BuiS (K:Law)(n:Nat)(Od:List Nat->Prop)(room:Nat)(w0:World)(mb:Nat)(fs:List (Int×BF))(nx:Int)(M:Nat)(o:Own)(w:World)(vl:Value)(ks:List Int)(W:World):Prop:=∃ o' m' V',BuiT K n Od room w0 mb fs nx M o w vl ks W o' m' V'
section
variable {M:Nat}{vl vl':Value}{ks:List Int}{W W':World}
theorem BuiT.go (h:BuiT K n Od room w0 mb fs nx M o w vl ks W o' m' V'){M':Nat}(g:Goes K n Od room w0 mb fs' nx' (NoW M') o' W W'):BuiS K n Od room w0 mb fs' nx' M' o w vl ks W':=by
 obtain⟨o2,m2,V2,h1,h2,h3⟩:=g;exact⟨o2,m2,V2,h3,h2,h.chg.trans h1 (fun _ _ e=>e),h.l.chg h1⟩
theorem BuiT.refl (h:BuiT K n Od room w0 mb fs nx M o w vl ks W o' m' V'):Goes K n Od room w0 mb fs nx (NoW M) o' W W:=Goes.refl h.sat h.waits
theorem BuiS.below (h:BuiS K n Od room w0 mb fs nx M o w vl ks W)(hb:Below W.heap.size W W'):BuiS K n Od room w0 mb fs nx M o w vl ks W':=by
 obtain⟨o',m',V',h⟩:=h;exact h.go (h.refl.below hb)
theorem BuiS.goes (h:BuiS K n Od room w0 mb fs nx M o w vl ks W):Goes K n Od room w0 mb fs nx (NoW M) o w W:=by
 obtain⟨o',m',V',h⟩:=h;exact⟨o',m',V',h.chg,h.waits,h.sat⟩
theorem BuiS.app {k:Int}(h:BuiT K n Od room w0 mb fs nx M o w vl ks W o' m' V')(hown:OwnC 3 W' w.heap.size vl' (Za0 ks++[.int .i64 k]))(e1:W'.os=W.os)(e2:W'.tape=W.tape)(e3:W'.output=W.output)(e4:W.heap.size<=W'.heap.size)(hk:Zc0 vl vl' W W')(hw0:w0.heap.size<=w.heap.size) :
 BuiS K n Od room w0 mb fs nx M o w vl' (ks++[k]) W':=by
 have hw:=Zq2 e1 e2 e3 e4 hk;exact⟨o',m',V',h.sat.other hw (fun k _ hk=>⟨by have:=(h.l.own.lt k hk).1;omega,h.l.no k hk⟩),h.waits,h.chg.trans (ChgX.of_wr (C:=fun k=>w.heap.size<=k) hw o' (fun k _ hk=>(h.l.own.lt k hk).1)) (fun k hk e=>by omega),h.l.app h.sat.lt hown hk⟩
theorem BuiS.cells (h:BuiS K n Od room w0 mb fs nx M o w vl ks W)(hp:0<ks.length):∃ g c,vl=.slice (some ⟨g,0,none⟩) ks.length c/\∀ j,j<ks.length->W.cell? ⟨g,j,none⟩=some (.int .i64 (at0 ks j)):=by
 obtain⟨o',m',V',h⟩:=h;obtain⟨g,c,e,_⟩:=h.l.own.shape (by simpa [Za0] using hp);have e':vl=.slice (some ⟨g,0,none⟩) ks.length c:=by rw[e];simp[Za0]
 refine⟨g,c,e',fun j hj=>?_⟩;have ho:=h.l.own;rw[e'] at ho;rw[ho.cell j (by simpa [Za0] using hj)];simp[Za0,Zax hj,hj]
theorem BuiS.cellsN (h:BuiS K n Od room w0 mb fs nx M o w vl ks W){i:Nat}(hl:ks.length=i)(hp:0<i):∃ g c,vl=.slice (some ⟨g,0,none⟩) i c/\∀ j,j<i->W.cell? ⟨g,j,none⟩=some (.int .i64 (at0 ks j)):=by
 subst hl;exact h.cells hp
end
def Zhq (n s:Nat):Nat:=s*2^n-(2^n-1)
theorem Zh4 (n:Nat){s:Nat}(h:1<=s):Zhq n s+(2^n-1)=s*2^n:=by
 have:=Nat.mul_le_mul_right (2^n) h;unfold Zhq;omega
def Zeq (n:Nat)(kid:Nat->ExT)(i:Nat):Nat:=sumN i fun j=>Zhq n (kid j).size
theorem Zo2 (n:Nat)(kid:Nat->ExT):∀ i,Zeq n kid i+i*(2^n-1)=(sumN i fun i=>(kid i).size)*2^n
 | 0=>by simp[Zeq,sumN]
 | i+1=>by
   have h1:=Zo2 n kid i;have h2:=Zh4 n (kid i).size_pos
   show Zeq n kid i+Zhq n (kid i).size+(i+1)*(2^n-1)=((sumN i fun i=>(kid i).size)+(kid i).size)*2^n
   rw[Nat.add_mul,Nat.add_mul];omega
structure BCtx (K:Law)(n:Nat)(Od:List Nat->Prop)(room:Nat)(w0:World)(mb:Nat)(fs:List (Int×BF))(nx:Int)(M:Nat)(w w1:World)(o:Own)(m:ManD)(V:Nat->BF)(op v:Int)(nk:Nat)(kid:Nat->ExT)(a:Option Addr)(c:Nat)(E:ExT)(Q:Ending->World->Prop):Prop where
 HKK:Hid (Zc8 K)
 H5:Hid (∀ k,k<nk->∃ b off x0 x1 x2,a=some ⟨b,off,none⟩/\w0.cell? ⟨b,off+k*3,none⟩=some x0/\w0.cell? ⟨b,off+k*3+1,none⟩=some x1/\w0.cell? ⟨b,off+k*3+2,none⟩=some x2/\Za4 w0 (kid k) (.agg #[x0,x1,x2]))
 HKS:Hid (∀ i,i<nk->(sumN i fun i=>(kid i).size)+(kid i).size+1<=E.size)
 HSZ:Hid (E.size=1+sumN nk fun i=>(kid i).size)
 HPOS:Hid (∀ k,k<=sumN k fun i=>(kid i).size)
 IH:Hid (∀ (i:Nat) (x:Value) (fs':List (Int×BF)) (nx':Int) (W:World) (o':Own) (m':ManD) (V':Nat->BF) (M':Nat),i<nk->SatE K n Od room w0 mb fs' nx' W o' m' V'->m'.waits=[]/\m'.d.pool.many<=M'->B2 fs'->Za4 w0 (kid i) x->nx'+3*(kid i).size<549755813000->M'+(kid i).size*2^n<=room ->
  Calls prog 59 #[.pointer (some ⟨mb,0,none⟩),x] W fun y w'=>∃ k:Int,y=.returned (.tuple #[.int .i64 k,.bool true])/\k+3<=nx'+3*(kid i).size/\Goes K n Od room w0 mb (fs'++[(k,fnT (kid i))]) (k+1) (NoW (M'+Zhq n (kid i).size)) o' W w')
 HW1:Hid (w.alloc (.cells #[.int .i64 op,.int .i64 v,.slice a nk c] 79)=w1)
 HG1:Hid (Goes K n Od room w0 mb fs nx (NoW M) o w1 w1)
 HSAT1:Hid (SatE K n Od room w0 mb fs nx w1 o m V)
 HWT:Hid (m.waits=[]/\m.d.pool.many<=M)
 HB2:Hid (B2 fs)
 HQ:Hid (∀ (k:Int) F W M',F=fnT E->k+3<=nx+3*E.size->M'<=M+Zhq n E.size->Goes K n Od room w0 mb (fs++[(k,F)]) (k+1) (NoW M') o w1 W->Q (.returned (.tuple #[.int .i64 k,.bool true])) W)
 HMR:Hid (∀ i,i<nk->M+(sumN i fun i=>(kid i).size)*2^n+(kid i).size*2^n+2^n<=room)
 HCK:Hid (∀ i,Zeq n kid i+i*(2^n-1)=(sumN i fun i=>(kid i).size)*2^n)
 HCI:Hid (∀ i,Zhq n (kid i).size+(2^n-1)=(kid i).size*2^n)
 HEP:Hid (E.size*2^n=2^n+(sumN nk fun i=>(kid i).size)*2^n/\Zhq n E.size+(2^n-1)=E.size*2^n)
 HME:Hid (M+E.size*2^n<=room)
 hn64:nk<=64
 hnx:nx+3*E.size<549755813000
 hE1:1<=E.size
 hs1:w1.heap.size=w.heap.size+1
 d0:w1.cell? ⟨w.heap.size,0,none⟩=some (.int .i64 op)
 d1:w1.cell? ⟨w.heap.size,1,none⟩=some (.int .i64 v)
 d2:w1.cell? ⟨w.heap.size,2,none⟩=some (.slice a nk c)
 on:o w.heap.size=none
 hw0:w0.heap.size<=w1.heap.size
 hp2:0<2^n
 h2 : -9223372036854775808<=op/\op<=9223372036854775807
 h3 : -9223372036854775808<=v/\v<=9223372036854775807
theorem Ztt {w1:World}{op v:Int}{nk:Nat}{kid:Nat->ExT}{a:Option Addr}{c:Nat}{E:ExT}{Q:Ending->World->Prop}{M:Nat}(hctx:BCtx K n Od room w0 mb fs nx M w w1 o m V op v nk kid a c E Q)(h1:op=1)(hF:fnT E=fun _=>true) :
 Calls prog 59 #[.pointer (some ⟨mb,0,none⟩),.agg #[.int .i64 op,.int .i64 v,.slice a nk c]] w Q:=by
 obtain⟨HKK,H5,HKS,HSZ,HPOS,IH,HW1,HG1,HSAT1,HWT,HB2,HQ,HMR,HCK,HCI,HEP,HME,hn64,hnx,hE1,hs1,d0,d1,d2,on,hw0,hp2,h2,h3⟩:=hctx;subst h1;have g2:=Hd (Zgf mb true w1);have g1:=Hd (Zni HKK.out HG1.out (by omega) (k:=1) (F:=fun _=>true) HB2.out.one);have g0:Hid ((fun _=>true)=fnT E):=Hd hF.symm;have g3:Hid (M<=M+Zhq n E.size):=Hd (Nat.le_add_right _ _);clear IH
 go_enter func59,ntmps59
 go_upto_region 1 with fail;rw[HW1.out];go_wp2_with fail;refine g2.out.mono ?_;rintro y w' ⟨rfl,rfl⟩;go_wp2_with fail;refine g1.out.mono ?_;rintro y w2 ⟨rfl,g⟩;have HF:=Hd (HQ.out nx _ w2 _ g0.out (by omega) g3.out g);clear g;go_wp2_with fail;exact HF.out
theorem Zrb {w1:World}{op v:Int}{nk:Nat}{kid:Nat->ExT}{a:Option Addr}{c:Nat}{E:ExT}{Q:Ending->World->Prop}{M:Nat}(hctx:BCtx K n Od room w0 mb fs nx M w w1 o m V op v nk kid a c E Q)(h1:op=2)(hF:fnT E=fun _=>false) :
 Calls prog 59 #[.pointer (some ⟨mb,0,none⟩),.agg #[.int .i64 op,.int .i64 v,.slice a nk c]] w Q:=by
 obtain⟨HKK,H5,HKS,HSZ,HPOS,IH,HW1,HG1,HSAT1,HWT,HB2,HQ,HMR,HCK,HCI,HEP,HME,hn64,hnx,hE1,hs1,d0,d1,d2,on,hw0,hp2,h2,h3⟩:=hctx;subst h1;have g2:=Hd (Zgf mb false w1);have g1:=Hd (Zni HKK.out HG1.out (by omega) (k:=0) (F:=fun _=>false) HB2.out.zero);have g0:Hid ((fun _=>false)=fnT E):=Hd hF.symm;have g3:Hid (M<=M+Zhq n E.size):=Hd (Nat.le_add_right _ _);clear IH
 go_enter func59,ntmps59
 go_upto_region 1 with fail;rw[HW1.out];go_wp2_with fail;refine g2.out.mono ?_;rintro y w' ⟨rfl,rfl⟩;go_wp2_with fail;refine g1.out.mono ?_;rintro y w2 ⟨rfl,g⟩;have HF:=Hd (HQ.out nx _ w2 _ g0.out (by omega) g3.out g);clear g;go_wp2_with fail;exact HF.out
theorem Zv4 {w1:World}{op v:Int}{nk:Nat}{kid:Nat->ExT}{a:Option Addr}{c:Nat}{E:ExT}{Q:Ending->World->Prop}{M:Nat}(hctx:BCtx K n Od room w0 mb fs nx M w w1 o m V op v nk kid a c E Q){u:Nat}(hu:u<n)(h1:op=3)(hvu:v=u)(hF:fnT E=varF u) :
 Calls prog 59 #[.pointer (some ⟨mb,0,none⟩),.agg #[.int .i64 op,.int .i64 v,.slice a nk c]] w Q:=by
 obtain⟨HKK,H5,HKS,HSZ,HPOS,IH,HW1,HG1,HSAT1,HWT,HB2,HQ,HMR,HCK,HCI,HEP,HME,hn64,hnx,hE1,hs1,d0,d1,d2,on,hw0,hp2,h2,h3⟩:=hctx;subst hvu;subst h1;have g1:=Hd (Yeb HKK.out HG1.out (by omega) (by have:=HEP.out;have:=HME.out;omega) hu);have g0:Hid (varF u=fnT E):=Hd hF.symm;have g2:Hid (M+1<=M+Zhq n E.size):=Hd (by have:=HEP.out;omega);clear IH
 go_enter func59,ntmps59
 go_upto_region 1 with fail;rw[HW1.out];go_wp2_with fail;refine g1.out.mono ?_;rintro y w2 ⟨rfl,g⟩;have HF:=Hd (HQ.out nx _ w2 _ g0.out (by omega) g2.out g);clear g;go_wp2_with fail;exact HF.out
end
open Go.RowKit
section
variable {K:Law}{n:Nat}{Od:List Nat->Prop}{room:Nat}{w0 w w' w'':World}{mb:Nat}{fs fs':List (Int×BF)}{nx nx':Int}{o o':Own}{m m':ManD}{V V':Nat->BF}
theorem Zv0 {w1:World}{op v:Int}{nk:Nat}{kid:Nat->ExT}{a:Option Addr}{c:Nat}{E:ExT}{Q:Ending->World->Prop}{M:Nat}(hctx:BCtx K n Od room w0 mb fs nx M w w1 o m V op v nk kid a c E Q)(h1:op=5\/op=6\/op=7)(hF:fnT E=accT op kid nk) :
 Calls prog 59 #[.pointer (some ⟨mb,0,none⟩),.agg #[.int .i64 op,.int .i64 v,.slice a nk c]] w Q:=by
 obtain⟨HKK,H5,HKS,HSZ,HPOS,IH,HW1,HG1,HSAT1,HWT,HB2,HQ,HMR,HCK,HCI,HEP,HME,hn64,hnx,hE1,hs1,d0,d1,d2,on,hw0,hp2,h2,h3⟩:=hctx;have ga:5<=op/\op<=9:=by omega
 have gc:Hid (accT op kid nk=fnT E):=Hd hF.symm;have gd:=Hd (fun b=>Zgf mb b w1)
 have g8:Hid (∀ z:Int,z=(if op=5 then 1 else 0)->Calls prog 114 #[.pointer (some ⟨mb,0,none⟩),.int .i64 z] w1 fun x w''=>x=.returned (.tuple #[.int .i64 nx,.int .i64 0])/\Goes K n Od room w0 mb (fs++[(nx,accT op kid 0)]) (nx+1) (NoW M) o w1 w''):=Hd (by
  rintro z rfl
  by_cases e:op=5
  . rw[if_pos e,show accT op kid 0=fun _=>true by unfold accT;simp[e]];exact Zni HKK.out HG1.out (by omega) HB2.out.one
  . rw[if_neg e,show accT op kid 0=fun _=>false by unfold accT;simp[e]];exact Zni HKK.out HG1.out (by omega) HB2.out.zero)
 obtain⟨A,hA⟩:∃ A:Nat->BF,A=accT op kid:=⟨_,rfl⟩;have gj:Hid (∀ i,Zpm op (A i) (fnT (kid i))=A (i+1)):=Hd fun i=>by rw[hA];rfl
 rw[<- hA] at g8 gc;clear hA;rcases h1 with h1|h1|h1
 all_goals
  subst h1
  go_enter func59,ntmps59
  go_upto_region 1 with fail;rw[HW1.out];go_wp2_with fail;refine(gd.out _).mono ?_;rintro y w' ⟨rfl,rfl⟩;go_wp2_with fail;refine(g8.out _ (by rfl)).mono ?_;rintro y w2 ⟨rfl,g⟩;have gi:=Hd g;clear g gd g8;go_wp2_with fail
  go_loopw [10,12,13,14] (fun s10 s12 s13 s14 wr=>∃ (i:Nat) (k:Int),i<=nk/\s10=.int .i64 k/\s12=.bool true/\s13=.int .i64 i/\Hid (k+3<=nx+3*((1+sumN i fun i=>(kid i).size:Nat):Int))/\Hid (Goes K n Od room w0 mb (fs++[(k,A i)]) (k+1) (NoW (M+(sumN i fun i=>(kid i).size)*2^n)) o w1 wr)) (fun _ _ s13 _ _=>nk-(intOf s13).toNat)
  case atStart=>exact⟨0,nx,Nat.zero_le _,rfl,rfl,rfl,Hd (by show nx+3<=nx+3*((1+0:Nat):Int);omega),Hd (gi.out.more (Nat.le_add_right _ _))⟩
  case round =>
   obtain⟨i,k,hi,rfl,rfl,rfl,HN,HG⟩:=hrel;have e0:=HG.out.cell (p:=⟨w.heap.size,0,none⟩) d0 on;have e2:=HG.out.cell (p:=⟨w.heap.size,2,none⟩) d2 on
   by_cases g0:i<nk
   ·obtain⟨b,off,x0,x1,x2,rfl,c0,c1,c2,hx⟩:=H5.out i g0;have g1:=HG.out.below0;have q0:=(g1.cell (p:=⟨b,off+i*3,none⟩) (Zab c0)).trans c0;have q1:=(g1.cell (p:=⟨b,off+i*3+1,none⟩) (Zab c1)).trans c1;have q2:=(g1.cell (p:=⟨b,off+i*3+2,none⟩) (Zab c2)).trans c2;have gf:(i:Int)<nk:=by omega
    have gl:=HKS.out i g0;obtain⟨o1,m1,V1,g9,g5,g6⟩:=HG.out;have gk:=HN.out;have g2:=Hd (IH.out i _ (fs++[(k,A i)]) (k+1) _ o1 m1 V1 _ g0 g6 g5 (HB2.out.app _) hx (by omega) (by have:=HMR.out i g0;omega));have ge:=Hd g9;clear g1 c0 c1 c2 hx g6 g5 g9;go_wp2_with fail;refine g2.out.mono ?_;rintro y w3 ⟨k2,rfl,gn,g3⟩
    have g7:Hid (Goes K n Od room w0 mb (fs++[(k,A i),(k2,fnT (kid i))]) (k2+1) (NoW (M+(sumN i fun i=>(kid i).size)*2^n+Zhq n (kid i).size)) o w1 w3):=Hd (by
     have:=g3.after ge.out;rw[List.append_assoc] at this;exact this)
    have f0:=g7.out.cell (p:=⟨w.heap.size,0,none⟩) d0 on;have HJ:=Hd (Zsq HKK.out g7.out HB2.out (by omega) (by have:=HMR.out i g0;have:=HCI.out i;omega) ga.1 ga.2);clear g3 g2 ge q0 q1 q2 e0 e2;go_wp2_with fail;refine HJ.out.mono ?_;rintro y w4 ⟨k4,rfl,gm,g4⟩
    have gh:Hid (Goes K n Od room w0 mb (fs++[(k4,A (i+1))]) (k4+1) (NoW (M+(sumN (i+1) fun i=>(kid i).size)*2^n)) o w1 w4):=Hd (by
     rw[<- gj.out i];refine g4.more ?_
     show _<=M+((sumN i fun i=>(kid i).size)+(kid i).size)*2^n
     rw[Nat.add_mul];have:=HCI.out i;omega)
    have gg:Hid (k4+3<=nx+3*((1+sumN (i+1) fun i=>(kid i).size:Nat):Int)):=Hd (by
     show k4+3<=nx+3*((1+((sumN i fun i=>(kid i).size)+(kid i).size):Nat):Int)
     omega)
    clear g4 HJ f0 g7;go_wp2_with fail;go_roundw
    case rel=>exact⟨i+1,k4,by omega,rfl,rfl,by go_num,gg,gh⟩
    case measure=>simp[intOf];omega
   ·obtain rfl:i=nk:=by omega
    have gf:¬ (i:Int)<i:=by omega
    have HF:=Hd (HQ.out k _ _ _ gc.out (by have:=HN.out;have:=HSZ.out;omega) (by have:=HEP.out;omega) HG.out);go_wp2_with fail;exact HF.out
end
open Go.RowKit
section
variable {K:Law}{n:Nat}{Od:List Nat->Prop}{room:Nat}{w0 w w' w'':World}{mb:Nat}{fs fs':List (Int×BF)}{nx nx':Int}{o o':Own}{m m':ManD}{V V':Nat->BF}
theorem Zv2 {w1:World}{op v:Int}{nk:Nat}{kid:Nat->ExT}{a:Option Addr}{c:Nat}{E:ExT}{Q:Ending->World->Prop}{M:Nat}(hctx:BCtx K n Od room w0 mb fs nx M w w1 o m V op v nk kid a c E Q)(h1:op=4)(hnk:nk=1)(hF:fnT E=notF (fnT (kid 0))) :
 Calls prog 59 #[.pointer (some ⟨mb,0,none⟩),.agg #[.int .i64 op,.int .i64 v,.slice a nk c]] w Q:=by
 obtain⟨HKK,H5,HKS,HSZ,HPOS,IH,HW1,HG1,HSAT1,HWT,HB2,HQ,HMR,HCK,HCI,HEP,HME,hn64,hnx,hE1,hs1,d0,d1,d2,on,hw0,hp2,h2,h3⟩:=hctx;have g1:(op == 1)=false:=by simp;omega
 have g2:(op == 2)=false:=by simp;omega
 have g3:(op == 3)=false:=by simp;omega
 have g5:(op == 5)=false:=by simp;omega
 have g6:(op == 6)=false:=by simp;omega
 have g7:(op == 7)=false:=by simp;omega
 have g4:(op == 4)=true:=by simp;omega
 have gD:=Hd hnk;clear h1 hnk;obtain⟨w2,gf⟩:∃ w2,w2=w1.alloc (.cells #[] 3):=⟨_,rfl⟩;have gC:Hid (_=w2):=Hd gf.symm;have g9:Below w1.heap.size w1 w2:=by rw[gf];exact Zae _ _
 have gm:Hid (BuiS K n Od room w0 mb (fs++[]) nx (M+Zeq n kid 0) o w1 (.slice (some ⟨w.heap.size+1,0,none⟩) 0 0) (([]:List (Int×BF)).map Prod.fst) w2):=Hd ⟨o,m,V,by rw[List.append_nil];exact HSAT1.out.below g9,HWT.out,Zc2 g9 o,by rw[gf,<- hs1];exact Zfu _ _ _ (Nat.le_refl _),fun k hk=>by cases hk;rw[<- hs1];exact HSAT1.out.lt.none (Nat.le_refl _)⟩;have gn:=Hd g9;clear gf g9
 go_enter func59,ntmps59
 go_upto_region 1 with fail;rw[HW1.out];go_upto_region 23 with fail;rw[gC.out];have e2:=(gn.out.cell (p:=⟨w.heap.size,2,none⟩) (Zab d2)).trans d2;go_wp2_with fail
 go_loopw [15,106] (fun s15 s106 wr=>∃ (i:Nat) (hs:List (Int×BF)) (nxi:Int),i<=nk/\s106=.int .i64 i/\hs.length=i/\nxi+2*i<=nx+3*((sumN i fun i=>(kid i).size:Nat):Int)/\Hid (∀ j (hj:j<hs.length),hs[j].2=fnT (kid j))/\Hid (BuiS K n Od room w0 mb (fs++hs) nxi (M+Zeq n kid i) o w1 s15 (hs.map Prod.fst) wr)) (fun _ s106 _=>nk-(intOf s106).toNat)
 case atStart=>exact⟨0,[],nx,Nat.zero_le _,rfl,rfl,by show nx+2*((0:Nat):Int)<=nx+3*((0:Nat):Int);omega,Hd (fun j hj=>by simp at hj),gm⟩
 case round =>
  clear gm gn e2
  rename World=>wy
  obtain⟨i,hs,nxi,hi,rfl,gA,gI,gt,g0⟩:=hrel
  by_cases gi:i<nk
  ·obtain⟨b,off,x0,x1,x2,rfl,c0,c1,c2,hx⟩:=H5.out i gi;have gj:=g0.out.goes.below0;have q0:=(gj.cell (p:=⟨b,off+i*3,none⟩) (Zab c0)).trans c0;have q1:=(gj.cell (p:=⟨b,off+i*3+1,none⟩) (Zab c1)).trans c1;have q2:=(gj.cell (p:=⟨b,off+i*3+2,none⟩) (Zab c2)).trans c2;obtain⟨zo,zv,za,zn,zc,rfl,rfl,rfl⟩:=hx.parts;have gz:(i:Int)<nk:=by omega
   have gK:=HKS.out i gi;obtain⟨wz,ge⟩:∃ wz,wz=wy.alloc (.cells #[.int .i64 zo,.int .i64 zv,.slice za zn zc] 79):=⟨_,rfl⟩;have gB:Hid (_=wz):=Hd ge.symm;have gr:Below wy.heap.size wy wz:=by rw[ge];exact Zae _ _
   have g8:wz.heap[wy.heap.size]?=some (.cells #[.int .i64 zo,.int .i64 zv,.slice za zn zc] 79 (0,0)):=by rw[ge];exact heap_alloc_new _ _
   have p0:wz.cell? ⟨wy.heap.size,0,none⟩=some (.int .i64 zo):=by rw[cell_of_row _ _ 0 _ _ _ g8];rfl
   have p1:wz.cell? ⟨wy.heap.size,1,none⟩=some (.int .i64 zv):=by rw[cell_of_row _ _ 1 _ _ _ g8];rfl
   have p2:wz.cell? ⟨wy.heap.size,2,none⟩=some (.slice za zn zc):=by rw[cell_of_row _ _ 2 _ _ _ g8];rfl
   obtain⟨o1,m1,V1,bt⟩:=g0.out.below gr;have gH:=HPOS.out i;have gk:=Hd (IH.out i _ (fs++hs) nxi wz o1 m1 V1 _ gi bt.sat bt.waits (HB2.out.app _) hx (by omega) (by have:=HMR.out i gi;have:=HCK.out i;omega));have gc:=Hd bt;clear gj c0 c1 c2 hx bt ge gr g8 g0;go_upto_region 26 with fail;rw[gB.out];clear q0 q1 q2;go_wp2_with fail;refine gk.out.mono ?_;rintro y w3 ⟨k2,rfl,gL,gg⟩;have gl:=Hd (gc.out.go (M':=M+Zeq n kid (i+1)) (gg.more (Nat.le_of_eq (Nat.add_assoc _ _ _))));have gF:Hid (∀ j (hj:j<(hs++[(k2,fnT (kid i))]).length),(hs++[(k2,fnT (kid i))])[j].2=fnT (kid j)):=Hd fun j hj=>by
    rcases Nat.lt_or_ge j hs.length with h|h
    . rw[List.getElem_append_left h];exact gt.out j h
    ·have gy:j=i:=by simp at hj;omega
     subst gy;rw[List.getElem_append_right (by omega)];simp
   clear gg gk gc p0 p1 p2;obtain⟨o3,m3,V3,bt3⟩:=gl.out;have gw:w1.heap.size<=w3.heap.size:=bt3.chg.size;have gd:=Hd bt3;clear bt3;go_upto_region 30 with (at_builtin;refine Zcr Znl _ rfl _ _ rfl w1.heap.size _ (Za0 (hs.map Prod.fst)) _ rfl rfl rfl rfl rfl (by exact gd.out.l.own) (by simp[Za0];omega) gw ?_;intro v5 w5 gh r1 r2 r3 r4 gp)
   have gx:Hid (BuiS K n Od room w0 mb (fs++(hs++[(k2,fnT (kid i))])) (k2+1) (M+Zeq n kid (i+1)) o w1 v5 ((hs++[(k2,fnT (kid i))]).map Prod.fst) w5):=Hd (by
    have:=BuiS.app gd.out gh r1 r2 r3 r4 gp hw0;rw[List.append_assoc] at this;rw[List.map_append];exact this)
   clear gh r1 r2 r3 r4 gp gd gl;go_wp2_with fail;go_roundw
   case rel=>exact⟨i+1,hs++[(k2,fnT (kid i))],k2+1,by omega,by go_num,by simp;omega,by
    show k2+1+2*((i+1:Nat):Int)<=nx+3*(((sumN i fun i=>(kid i).size)+(kid i).size:Nat):Int)
    omega,gF,gx⟩
   case measure=>simp[intOf];omega
  ·obtain rfl:i=nk:=by omega
   have gz:¬ (i:Int)<i:=by omega
   have f0:=g0.out.goes.cell (p:=⟨w.heap.size,0,none⟩) d0 on;have gv:=HSZ.out;have gG:nxi+2*i+3<=nx+3*E.size:=by omega
   have hnk:=gD.out;have gJ:1<=i:=by omega
   clear gv H5 IH HSZ HKS HPOS;obtain⟨o1,m1,V1,bt⟩:=g0.out;have gc:=Hd bt;clear bt;subst hnk;obtain⟨⟨k0,F0⟩,rfl⟩:=List.length_eq_one_iff.1 gA;obtain⟨g,cp,rfl,ga⟩:=g0.out.cellsN (i:=1) rfl (by omega);have c0:wy.cell? ⟨g,0,none⟩=some (.int .i64 k0):=ga 0 (by omega);have HF:Hid (notF F0=fnT E):=Hd (by rw[hF,<- gt.out 0 (by simp)];rfl);have HN:=Hd (Ybq HKK.out gc.out.refl (by omega) (k:=k0) (F:=F0) (by simp));clear ga;go_wp2_with fail;refine HN.out.mono ?_;rintro y w3 ⟨rfl,g3⟩;have gu:=Hd (gc.out.go g3);obtain⟨g',cp',ev,gq⟩:=gu.out.cellsN (i:=1) rfl (by omega);cases ev;have c3:w3.cell? ⟨g,0,none⟩=some (.int .i64 k0):=gq 0 (by omega);have HD:=Hd (Znk HKK.out (hs:=[(k0,F0)]) (r:=[(nxi,notF F0)]) (by have:=gu.out.goes;rw[List.append_assoc] at this;exact this) HB2.out (by omega) (by simp) (T:=w3.alloc (.cells #[.int .i64 k0] 3)) rfl);clear g3 gq HN;go_wp2_with fail;refine HD.out.mono ?_;rintro y w4 ⟨rfl,g4⟩;have gE:=Hd (HQ.out nxi _ w4 _ HF.out (by omega) (by have:=HEP.out;have:=HCK.out 1;omega) g4);clear g4 HD;go_wp2_with fail;exact gE.out
end
open Go.RowKit
section
variable {K:Law}{n:Nat}{Od:List Nat->Prop}{room:Nat}{w0 w w' w'':World}{mb:Nat}{fs fs':List (Int×BF)}{nx nx':Int}{o o':Own}{m m':ManD}{V V':Nat->BF}
theorem Zv3 {w1:World}{op v:Int}{nk:Nat}{kid:Nat->ExT}{a:Option Addr}{c:Nat}{E:ExT}{Q:Ending->World->Prop}{M:Nat}(hctx:BCtx K n Od room w0 mb fs nx M w w1 o m V op v nk kid a c E Q)(h1:op=8\/op=9)(hnk:nk=2)(hF:fnT E=Zpm op (fnT (kid 0)) (fnT (kid 1))) :
 Calls prog 59 #[.pointer (some ⟨mb,0,none⟩),.agg #[.int .i64 op,.int .i64 v,.slice a nk c]] w Q:=by
 obtain⟨HKK,H5,HKS,HSZ,HPOS,IH,HW1,HG1,HSAT1,HWT,HB2,HQ,HMR,HCK,HCI,HEP,HME,hn64,hnx,hE1,hs1,d0,d1,d2,on,hw0,hp2,h2,h3⟩:=hctx;have g1:(op == 1)=false:=by simp;omega
 have g2:(op == 2)=false:=by simp;omega
 have g3:(op == 3)=false:=by simp;omega
 have g5:(op == 5)=false:=by simp;omega
 have g6:(op == 6)=false:=by simp;omega
 have g7:(op == 7)=false:=by simp;omega
 have g4:(op == 4)=false:=by simp;omega
 have g10:(op == 10)=false:=by simp;omega
 have gC:=Hd hnk;have H1:=Hd h1;clear h1 hnk;obtain⟨w2,gf⟩:∃ w2,w2=w1.alloc (.cells #[] 3):=⟨_,rfl⟩;have gB:Hid (_=w2):=Hd gf.symm;have gc:Below w1.heap.size w1 w2:=by rw[gf];exact Zae _ _
 have gn:Hid (BuiS K n Od room w0 mb (fs++[]) nx (M+Zeq n kid 0) o w1 (.slice (some ⟨w.heap.size+1,0,none⟩) 0 0) (([]:List (Int×BF)).map Prod.fst) w2):=Hd ⟨o,m,V,by rw[List.append_nil];exact HSAT1.out.below gc,HWT.out,Zc2 gc o,by rw[gf,<- hs1];exact Zfu _ _ _ (Nat.le_refl _),fun k hk=>by cases hk;rw[<- hs1];exact HSAT1.out.lt.none (Nat.le_refl _)⟩;have gp:=Hd gc;clear gf gc
 go_enter func59,ntmps59
 go_upto_region 1 with fail;rw[HW1.out];go_upto_region 23 with fail;rw[gB.out];have e2:=(gp.out.cell (p:=⟨w.heap.size,2,none⟩) (Zab d2)).trans d2;go_wp2_with fail
 go_loopw [15,106] (fun s15 s106 wr=>∃ (i:Nat) (hs:List (Int×BF)) (nxi:Int),i<=nk/\s106=.int .i64 i/\hs.length=i/\nxi+2*i<=nx+3*((sumN i fun i=>(kid i).size:Nat):Int)/\Hid (∀ j (hj:j<hs.length),hs[j].2=fnT (kid j))/\Hid (BuiS K n Od room w0 mb (fs++hs) nxi (M+Zeq n kid i) o w1 s15 (hs.map Prod.fst) wr)) (fun _ s106 _=>nk-(intOf s106).toNat)
 case atStart=>exact⟨0,[],nx,Nat.zero_le _,rfl,rfl,by show nx+2*((0:Nat):Int)<=nx+3*((0:Nat):Int);omega,Hd (fun j hj=>by simp at hj),gn⟩
 case round =>
  clear gn gp e2
  rename World=>wy
  obtain⟨i,hs,nxi,hi,rfl,gz,gH,gl,g9⟩:=hrel
  by_cases gi:i<nk
  ·obtain⟨b,off,x0,x1,x2,rfl,c0,c1,c2,hx⟩:=H5.out i gi;have gj:=g9.out.goes.below0;have q0:=(gj.cell (p:=⟨b,off+i*3,none⟩) (Zab c0)).trans c0;have q1:=(gj.cell (p:=⟨b,off+i*3+1,none⟩) (Zab c1)).trans c1;have q2:=(gj.cell (p:=⟨b,off+i*3+2,none⟩) (Zab c2)).trans c2;obtain⟨zo,zv,za,zn,zc,rfl,rfl,rfl⟩:=hx.parts;have gy:(i:Int)<nk:=by omega
   have gJ:=HKS.out i gi;obtain⟨wz,ge⟩:∃ wz,wz=wy.alloc (.cells #[.int .i64 zo,.int .i64 zv,.slice za zn zc] 79):=⟨_,rfl⟩;have gA:Hid (_=wz):=Hd ge.symm;have gt:Below wy.heap.size wy wz:=by rw[ge];exact Zae _ _
   have ga:wz.heap[wy.heap.size]?=some (.cells #[.int .i64 zo,.int .i64 zv,.slice za zn zc] 79 (0,0)):=by rw[ge];exact heap_alloc_new _ _
   have p0:wz.cell? ⟨wy.heap.size,0,none⟩=some (.int .i64 zo):=by rw[cell_of_row _ _ 0 _ _ _ ga];rfl
   have p1:wz.cell? ⟨wy.heap.size,1,none⟩=some (.int .i64 zv):=by rw[cell_of_row _ _ 1 _ _ _ ga];rfl
   have p2:wz.cell? ⟨wy.heap.size,2,none⟩=some (.slice za zn zc):=by rw[cell_of_row _ _ 2 _ _ _ ga];rfl
   obtain⟨o1,m1,V1,bt⟩:=g9.out.below gt;have gG:=HPOS.out i;have gk:=Hd (IH.out i _ (fs++hs) nxi wz o1 m1 V1 _ gi bt.sat bt.waits (HB2.out.app _) hx (by omega) (by have:=HMR.out i gi;have:=HCK.out i;omega));have g8:=Hd bt;clear gj c0 c1 c2 hx bt ge gt ga g9;go_upto_region 26 with fail;rw[gA.out];clear q0 q1 q2;go_wp2_with fail;refine gk.out.mono ?_;rintro y w3 ⟨k2,rfl,gK,gg⟩;have gm:=Hd (g8.out.go (M':=M+Zeq n kid (i+1)) (gg.more (Nat.le_of_eq (Nat.add_assoc _ _ _))));have gE:Hid (∀ j (hj:j<(hs++[(k2,fnT (kid i))]).length),(hs++[(k2,fnT (kid i))])[j].2=fnT (kid j)):=Hd fun j hj=>by
    rcases Nat.lt_or_ge j hs.length with h|h
    . rw[List.getElem_append_left h];exact gl.out j h
    ·have gx:j=i:=by simp at hj;omega
     subst gx;rw[List.getElem_append_right (by omega)];simp
   clear gg gk g8 p0 p1 p2;obtain⟨o3,m3,V3,bt3⟩:=gm.out;have gv:w1.heap.size<=w3.heap.size:=bt3.chg.size;have gd:=Hd bt3;clear bt3;go_upto_region 30 with (at_builtin;refine Zcr Znl _ rfl _ _ rfl w1.heap.size _ (Za0 (hs.map Prod.fst)) _ rfl rfl rfl rfl rfl (by exact gd.out.l.own) (by simp[Za0];omega) gv ?_;intro v5 w5 gh r1 r2 r3 r4 gq)
   have gw:Hid (BuiS K n Od room w0 mb (fs++(hs++[(k2,fnT (kid i))])) (k2+1) (M+Zeq n kid (i+1)) o w1 v5 ((hs++[(k2,fnT (kid i))]).map Prod.fst) w5):=Hd (by
    have:=BuiS.app gd.out gh r1 r2 r3 r4 gq hw0;rw[List.append_assoc] at this;rw[List.map_append];exact this)
   clear gh r1 r2 r3 r4 gq gd gm;go_wp2_with fail;go_roundw
   case rel=>exact⟨i+1,hs++[(k2,fnT (kid i))],k2+1,by omega,by go_num,by simp;omega,by
    show k2+1+2*((i+1:Nat):Int)<=nx+3*(((sumN i fun i=>(kid i).size)+(kid i).size:Nat):Int)
    omega,gE,gw⟩
   case measure=>simp[intOf];omega
  ·obtain rfl:i=nk:=by omega
   have gy:¬ (i:Int)<i:=by omega
   have f0:=g9.out.goes.cell (p:=⟨w.heap.size,0,none⟩) d0 on;have gu:=HSZ.out;have gF:nxi+2*i+3<=nx+3*E.size:=by omega
   have hnk:=gC.out;have gI:1<=i:=by omega
   clear gu H5 IH HSZ HKS HPOS;obtain⟨o1,m1,V1,bt⟩:=g9.out;have g8:=Hd bt;clear bt;subst hnk;obtain⟨⟨k0,F0⟩,⟨k1',F1⟩,rfl⟩:=Yc0 gz;obtain⟨g,cp,rfl,g0⟩:=g9.out.cellsN (i:=2) rfl (by omega);have c0:wy.cell? ⟨g,0,none⟩=some (.int .i64 k0):=g0 0 (by omega);have c1:wy.cell? ⟨g,1,none⟩=some (.int .i64 k1'):=g0 1 (by omega);have HF:Hid (Zpm op F0 F1=fnT E):=Hd (by rw[hF,<- gl.out 0 (by simp),<- gl.out 1 (by simp)];rfl);have HJ:Hid (∀ W,W=wy.drew->Calls prog 116 #[.pointer (some ⟨mb,0,none⟩),.int .i64 op,.int .i64 k0,.int .i64 k1'] W fun x w''=>∃ k:Int,x=.returned (.tuple #[.int .i64 k,.bool true])/\k<=nxi+1/\Goes K n Od room w0 mb (fs++[(k,Zpm op F0 F1)]) (k+1) (NoW (M+Zeq n kid 2+(2^n-1))) o1 wy w'') :=
    Hd fun W hW=>by subst hW;exact Zsq HKK.out (g8.out.refl.below (Zag wy 1)) HB2.out (by omega) (by have:=HEP.out;have:=HCK.out 2;have:=HME.out;omega) (by have:=H1.out;omega) (by have:=H1.out;omega)
   clear g0;go_upto_region 39 with fail;refine Zan (fun W:World=>W.cell? ⟨w.heap.size,0,none⟩=some (.int .i64 op)/\W.cell? ⟨g,0,none⟩=some (.int .i64 k0)/\W.cell? ⟨g,1,none⟩=some (.int .i64 k1')) false 14
    [(0,false),(1,false),(2,false),(3,false),(4,false),(5,false),(6,false),(7,false),(8,false),(9,true),(10,false),(11,false),(12,false),(13,false)] (by kernel_rfl) (by kernel_rfl) ⟨f0,c0,c1⟩ ?_
   simp only[planned,Zdd]
   iterate 9
    refine Zaj rfl ?_;apply Exists.intro;refine⟨fun w' hw=>?_,?_⟩
    . obtain⟨h1,h2,h3⟩:=hw;go_simp;rfl
    simp only[Zai]
   refine Zbw (R:=fun v w'=>∃ k:Int,v=.tuple #[.int .i64 k,.bool true]/\k<=nxi+1/\Goes K n Od room w0 mb (fs++[(k,Zpm op F0 F1)]) (k+1) (NoW (M+Zeq n kid 2+(2^n-1))) o1 wy w') rfl (by go_simp) ((HJ.out _ rfl).mono (fun e w' he=>?_)) ?_
   . obtain⟨k,rfl,q1,q2⟩:=he;have hb:=g8.out.go q2;obtain⟨g',cp',ev,gr⟩:=hb.cellsN (i:=2) rfl (by omega);cases ev;exact⟨_,rfl,⟨hb.goes.cell (p:=⟨w.heap.size,0,none⟩) d0 on,gr 0 (by omega),gr 1 (by omega)⟩,k,rfl,q1,q2⟩
   rintro v w3-⟨k,rfl,q1,q2⟩;have gD:=Hd (HQ.out k _ w3 _ HF.out (by omega) (by have:=HEP.out;have:=HCK.out 2;omega) (g8.out.go q2).goes);clear q2 HJ;simp only[Zai]
   iterate 4
    refine Zaj rfl ?_;apply Exists.intro;refine⟨fun w' hw=>?_,?_⟩
    . obtain⟨h1,h2,h3⟩:=hw;go_simp;rfl
    simp only[Zai]
   refine Zdm ?_;go_wp2_with fail;exact gD.out
end
open Go.RowKit
section
variable {K:Law}{n:Nat}{Od:List Nat->Prop}{room:Nat}{w0 w w' w'':World}{mb:Nat}{fs fs':List (Int×BF)}{nx nx':Int}{o o':Own}{m m':ManD}{V V':Nat->BF}
theorem Zv1 {w1:World}{op v:Int}{nk:Nat}{kid:Nat->ExT}{a:Option Addr}{c:Nat}{E:ExT}{Q:Ending->World->Prop}{M:Nat}(hctx:BCtx K n Od room w0 mb fs nx M w w1 o m V op v nk kid a c E Q)(h1:op=10)(hnk:nk=3)(hF:fnT E=Zed (fnT (kid 0)) (fnT (kid 1)) (fnT (kid 2))) :
 Calls prog 59 #[.pointer (some ⟨mb,0,none⟩),.agg #[.int .i64 op,.int .i64 v,.slice a nk c]] w Q:=by
 obtain⟨HKK,H5,HKS,HSZ,HPOS,IH,HW1,HG1,HSAT1,HWT,HB2,HQ,HMR,HCK,HCI,HEP,HME,hn64,hnx,hE1,hs1,d0,d1,d2,on,hw0,hp2,h2,h3⟩:=hctx;have g1:(op == 1)=false:=by simp;omega
 have g2:(op == 2)=false:=by simp;omega
 have g3:(op == 3)=false:=by simp;omega
 have g5:(op == 5)=false:=by simp;omega
 have g6:(op == 6)=false:=by simp;omega
 have g7:(op == 7)=false:=by simp;omega
 have g4:(op == 4)=false:=by simp;omega
 have g10:(op == 10)=true:=by simp;omega
 have gE:=Hd hnk;clear h1 hnk;obtain⟨w2,gh⟩:∃ w2,w2=w1.alloc (.cells #[] 3):=⟨_,rfl⟩;have gD:Hid (_=w2):=Hd gh.symm;have ge:Below w1.heap.size w1 w2:=by rw[gh];exact Zae _ _
 have gq:Hid (BuiS K n Od room w0 mb (fs++[]) nx (M+Zeq n kid 0) o w1 (.slice (some ⟨w.heap.size+1,0,none⟩) 0 0) (([]:List (Int×BF)).map Prod.fst) w2):=Hd ⟨o,m,V,by rw[List.append_nil];exact HSAT1.out.below ge,HWT.out,Zc2 ge o,by rw[gh,<- hs1];exact Zfu _ _ _ (Nat.le_refl _),fun k hk=>by cases hk;rw[<- hs1];exact HSAT1.out.lt.none (Nat.le_refl _)⟩;have gr:=Hd ge;clear gh ge
 go_enter func59,ntmps59
 go_upto_region 1 with fail;rw[HW1.out];go_upto_region 23 with fail;rw[gD.out];have e2:=(gr.out.cell (p:=⟨w.heap.size,2,none⟩) (Zab d2)).trans d2;go_wp2_with fail
 go_loopw [15,106] (fun s15 s106 wr=>∃ (i:Nat) (hs:List (Int×BF)) (nxi:Int),i<=nk/\s106=.int .i64 i/\hs.length=i/\nxi+2*i<=nx+3*((sumN i fun i=>(kid i).size:Nat):Int)/\Hid (∀ j (hj:j<hs.length),hs[j].2=fnT (kid j))/\Hid (BuiS K n Od room w0 mb (fs++hs) nxi (M+Zeq n kid i) o w1 s15 (hs.map Prod.fst) wr)) (fun _ s106 _=>nk-(intOf s106).toNat)
 case atStart=>exact⟨0,[],nx,Nat.zero_le _,rfl,rfl,by show nx+2*((0:Nat):Int)<=nx+3*((0:Nat):Int);omega,Hd (fun j hj=>by simp at hj),gq⟩
 case round =>
  clear gq gr e2
  rename World=>wy
  obtain⟨i,hs,nxi,hi,rfl,gA,gJ,gl,ga⟩:=hrel
  by_cases gj:i<nk
  ·obtain⟨b,off,x0,x1,x2,rfl,c0,c1,c2,hx⟩:=H5.out i gj;have gk:=ga.out.goes.below0;have q0:=(gk.cell (p:=⟨b,off+i*3,none⟩) (Zab c0)).trans c0;have q1:=(gk.cell (p:=⟨b,off+i*3+1,none⟩) (Zab c1)).trans c1;have q2:=(gk.cell (p:=⟨b,off+i*3+2,none⟩) (Zab c2)).trans c2;obtain⟨zo,zv,za,zn,zc,rfl,rfl,rfl⟩:=hx.parts;have gz:(i:Int)<nk:=by omega
   have gL:=HKS.out i gj;obtain⟨wz,gf⟩:∃ wz,wz=wy.alloc (.cells #[.int .i64 zo,.int .i64 zv,.slice za zn zc] 79):=⟨_,rfl⟩;have gC:Hid (_=wz):=Hd gf.symm;have gu:Below wy.heap.size wy wz:=by rw[gf];exact Zae _ _
   have gd:wz.heap[wy.heap.size]?=some (.cells #[.int .i64 zo,.int .i64 zv,.slice za zn zc] 79 (0,0)):=by rw[gf];exact heap_alloc_new _ _
   have p0:wz.cell? ⟨wy.heap.size,0,none⟩=some (.int .i64 zo):=by rw[cell_of_row _ _ 0 _ _ _ gd];rfl
   have p1:wz.cell? ⟨wy.heap.size,1,none⟩=some (.int .i64 zv):=by rw[cell_of_row _ _ 1 _ _ _ gd];rfl
   have p2:wz.cell? ⟨wy.heap.size,2,none⟩=some (.slice za zn zc):=by rw[cell_of_row _ _ 2 _ _ _ gd];rfl
   obtain⟨o1,m1,V1,bt⟩:=ga.out.below gu;have gI:=HPOS.out i;have gm:=Hd (IH.out i _ (fs++hs) nxi wz o1 m1 V1 _ gj bt.sat bt.waits (HB2.out.app _) hx (by omega) (by have:=HMR.out i gj;have:=HCK.out i;omega));have gc:=Hd bt;clear gk c0 c1 c2 hx bt gf gu gd ga;go_upto_region 26 with fail;rw[gC.out];clear q0 q1 q2;go_wp2_with fail;refine gm.out.mono ?_;rintro y w3 ⟨k2,rfl,gM,gg⟩;have gp:=Hd (gc.out.go (M':=M+Zeq n kid (i+1)) (gg.more (Nat.le_of_eq (Nat.add_assoc _ _ _))));have gG:Hid (∀ j (hj:j<(hs++[(k2,fnT (kid i))]).length),(hs++[(k2,fnT (kid i))])[j].2=fnT (kid j)):=Hd fun j hj=>by
    rcases Nat.lt_or_ge j hs.length with h|h
    . rw[List.getElem_append_left h];exact gl.out j h
    ·have gy:j=i:=by simp at hj;omega
     subst gy;rw[List.getElem_append_right (by omega)];simp
   clear gg gm gc p0 p1 p2;obtain⟨o3,m3,V3,bt3⟩:=gp.out;have gw:w1.heap.size<=w3.heap.size:=bt3.chg.size;have g0:=Hd bt3;clear bt3;go_upto_region 30 with (at_builtin;refine Zcr Znl _ rfl _ _ rfl w1.heap.size _ (Za0 (hs.map Prod.fst)) _ rfl rfl rfl rfl rfl (by exact g0.out.l.own) (by simp[Za0];omega) gw ?_;intro v5 w5 gi r1 r2 r3 r4 gt)
   have gx:Hid (BuiS K n Od room w0 mb (fs++(hs++[(k2,fnT (kid i))])) (k2+1) (M+Zeq n kid (i+1)) o w1 v5 ((hs++[(k2,fnT (kid i))]).map Prod.fst) w5):=Hd (by
    have:=BuiS.app g0.out gi r1 r2 r3 r4 gt hw0;rw[List.append_assoc] at this;rw[List.map_append];exact this)
   clear gi r1 r2 r3 r4 gt g0 gp;go_wp2_with fail;go_roundw
   case rel=>exact⟨i+1,hs++[(k2,fnT (kid i))],k2+1,by omega,by go_num,by simp;omega,by
    show k2+1+2*((i+1:Nat):Int)<=nx+3*(((sumN i fun i=>(kid i).size)+(kid i).size:Nat):Int)
    omega,gG,gx⟩
   case measure=>simp[intOf];omega
  ·obtain rfl:i=nk:=by omega
   have gz:¬ (i:Int)<i:=by omega
   have f0:=ga.out.goes.cell (p:=⟨w.heap.size,0,none⟩) d0 on;have gv:=HSZ.out;have gH:nxi+2*i+3<=nx+3*E.size:=by omega
   have hnk:=gE.out;have gK:1<=i:=by omega
   clear gv H5 IH HSZ HKS HPOS;obtain⟨o1,m1,V1,bt⟩:=ga.out;have gc:=Hd bt;clear bt;subst hnk;obtain⟨⟨k0,F0⟩,⟨k1',F1⟩,⟨k2',F2⟩,rfl⟩:=Zxc gA;obtain⟨g,cp,rfl,g8⟩:=ga.out.cellsN (i:=3) rfl (by omega);have c0:wy.cell? ⟨g,0,none⟩=some (.int .i64 k0):=g8 0 (by omega);have c1:wy.cell? ⟨g,1,none⟩=some (.int .i64 k1'):=g8 1 (by omega);have c2:wy.cell? ⟨g,2,none⟩=some (.int .i64 k2'):=g8 2 (by omega);have HF:Hid (Zed F0 F1 F2=fnT E):=Hd (by rw[hF,<- gl.out 0 (by simp),<- gl.out 1 (by simp),<- gl.out 2 (by simp)];rfl);have HI:Hid (∀ W,W=wy.drew->Calls prog 94 #[.pointer (some ⟨mb,0,none⟩),.int .i64 k0,.int .i64 k1',.int .i64 k2'] W fun x w''=>x=.returned (.tuple #[.int .i64 nxi,.int .i64 0])/\Goes K n Od room w0 mb (fs++[(k0,F0),(k1',F1),(k2',F2)]++[(nxi,Zed F0 F1 F2)]) (nxi+1) (NoW (M+Zeq n kid 3+(2^n-1))) o1 wy w'') :=
    Hd fun W hW=>by subst hW;exact Zw0 HKK.out (gc.out.refl.below (Zag wy 1)) (by omega) (by have:=HEP.out;have:=HCK.out 3;have:=HME.out;omega) (by simp) (by simp) (by simp)
   clear g8;go_upto_region 36 with fail;refine Zan (fun W:World=>W.cell? ⟨g,0,none⟩=some (.int .i64 k0)/\W.cell? ⟨g,1,none⟩=some (.int .i64 k1')/\W.cell? ⟨g,2,none⟩=some (.int .i64 k2')) false 16
    [(0,false),(1,false),(2,false),(3,false),(4,false),(5,false),(6,false),(7,false),(8,false),(9,false),(10,true),(11,false),(12,false),(13,false),(14,false),(15,false)] (by kernel_rfl) (by kernel_rfl) ⟨c0,c1,c2⟩ ?_
   simp only[planned,Zdd]
   iterate 10
    refine Zaj rfl ?_;apply Exists.intro;refine⟨fun w' hw=>?_,?_⟩
    . obtain⟨h1,h2,h3⟩:=hw;go_simp;rfl
    simp only[Zai]
   refine Zbw (R:=fun v w'=>v=.tuple #[.int .i64 nxi,.int .i64 0]/\Goes K n Od room w0 mb (fs++[(k0,F0),(k1',F1),(k2',F2)]++[(nxi,Zed F0 F1 F2)]) (nxi+1) (NoW (M+Zeq n kid 3+(2^n-1))) o1 wy w') rfl (by go_simp) ((HI.out _ rfl).mono (fun e w' he=>?_)) ?_
   . obtain⟨rfl,q2⟩:=he;have hb:=gc.out.go q2;obtain⟨g',cp',ev,g9⟩:=hb.cellsN (i:=3) rfl (by omega);cases ev;exact⟨_,rfl,⟨g9 0 (by omega),g9 1 (by omega),g9 2 (by omega)⟩,rfl,q2⟩
   rintro v w3 ⟨d0',d1',d2'⟩ ⟨rfl,q2⟩;obtain⟨o3,m3,V3,bt3⟩:=gc.out.go q2;have g0:=Hd bt3;clear q2 HI bt3 c0 c1 c2 ga;simp only[Zai]
   iterate 5
    refine Zaj rfl ?_;apply Exists.intro;refine⟨fun w' hw=>?_,?_⟩
    . obtain⟨h1,h2,h3⟩:=hw;go_simp;rfl
    simp only[Zai]
   refine Zdm ?_;have HD:Hid (∀ W T,Below w3.heap.size w3 W->T=W.alloc (.cells #[.int .i64 k0,.int .i64 k1',.int .i64 k2'] 3)->Calls prog 118 #[.pointer (some ⟨mb,0,none⟩),.slice (some ⟨W.heap.size,0,none⟩) 3 3] T fun x w''=>x=.returned (.int .i64 0)/\Goes K n Od room w0 mb (fs++[(nxi,Zed F0 F1 F2)]) (nxi+1) (NoW (M+Zeq n kid 3+(2^n-1))) o3 w3 w'') :=
    Hd fun W T hW hT=>Znk HKK.out (hs:=[(k0,F0),(k1',F1),(k2',F2)]) (r:=[(nxi,Zed F0 F1 F2)]) (by have:=g0.out.refl;rw[List.append_assoc] at this;exact this.below hW) HB2.out (by omega) (by simp) hT
   go_upto_region 37 with fail;refine Zan (fun W:World=>W.cell? ⟨g,0,none⟩=some (.int .i64 k0)/\W.cell? ⟨g,1,none⟩=some (.int .i64 k1')/\W.cell? ⟨g,2,none⟩=some (.int .i64 k2')) false 20
    [(0,false),(1,false),(2,false),(3,false),(4,false),(5,false),(6,false),(7,false),(8,false),(9,false),(10,false),(11,false),(12,false),(13,false),(14,true),(15,true),(16,false),(17,false),(18,false),(19,false)] (by kernel_rfl) (by kernel_rfl) ⟨d0',d1',d2'⟩ ?_
   simp only[planned,Zdd]
   iterate 4
    refine Zaj rfl ?_;apply Exists.intro;refine⟨fun w' hw=>?_,?_⟩
    . obtain⟨h1,h2,h3⟩:=hw;go_simp;rfl
    simp only[Zai]
   iterate 10
    refine Zao true (by go_simp) ?_;apply Exists.intro;refine⟨fun gB w' hw=>?_,?_⟩
    . obtain⟨h1,h2,h3⟩:=hw;go_simp;rfl
    simp only[Zai]
   have gn:=Zae w3.drew (.cells #[.int .i64 k0,.int .i64 k1',.int .i64 k2'] 3);refine Zuo (v:=.slice (some ⟨w3.heap.size,0,none⟩) 3 3) (w':=w3.drew.alloc (.cells #[.int .i64 k0,.int .i64 k1',.int .i64 k2'] 3)) (by go_simp) (by go_simp) ⟨(gn.cell (p:=⟨g,0,none⟩) (Zab (w:=w3.drew) d0')).trans d0',(gn.cell (p:=⟨g,1,none⟩) (Zab (w:=w3.drew) d1')).trans d1',(gn.cell (p:=⟨g,2,none⟩) (Zab (w:=w3.drew) d2')).trans d2'⟩ ?_;simp only[Zai];refine Zun (R:=fun v w'=>v=.int .i64 0/\Goes K n Od room w0 mb (fs++[(nxi,Zed F0 F1 F2)]) (nxi+1) (NoW (M+Zeq n kid 3+(2^n-1))) o3 w3 w') (by go_simp) (by go_simp) ((HD.out w3.drew _ (Zag w3 1) rfl).mono (fun e w' he=>?_)) ?_
   . obtain⟨rfl,q2⟩:=he;have hb:=g0.out.go q2;obtain⟨g',cp',ev,g9⟩:=hb.cellsN (i:=3) rfl (by omega);cases ev;exact⟨_,rfl,⟨g9 0 (by omega),g9 1 (by omega),g9 2 (by omega)⟩,rfl,q2⟩
   rintro v w4-⟨rfl,q2⟩;have gF:=Hd (HQ.out nxi _ w4 _ HF.out (by omega) (by have:=HEP.out;have:=HCK.out 3;omega) (g0.out.go q2).goes);clear q2 HD;simp only[Zai]
   iterate 1
    refine Zao true (by go_simp) ?_;apply Exists.intro;refine⟨fun gB w' hw=>?_,?_⟩
    . obtain⟨h1,h2,h3⟩:=hw;go_simp;rfl
    simp only[Zai]
   iterate 3
    refine Zaj rfl ?_;apply Exists.intro;refine⟨fun w' hw=>?_,?_⟩
    . obtain⟨h1,h2,h3⟩:=hw;go_simp;rfl
    simp only[Zai]
   refine Zdm ?_;go_wp2_with fail;exact gF.out
end
open Go.RowKit
section
variable {K:Law}{n:Nat}{Od:List Nat->Prop}{room:Nat}{w0:World}{mb:Nat}
theorem Zoy (hK:Zc8 K):∀ (e:ExT) (x:Value) (fs:List (Int×BF)) (nx:Int) (w:World) (o:Own) (m:ManD) (V:Nat->BF) (M:Nat),SatE K n Od room w0 mb fs nx w o m V->m.waits=[]/\m.d.pool.many<=M->B2 fs->Ztk e->(∀ v∈Zcq e,v<(n:Int))->Za4 w0 e x->nx+3*e.size<549755813000->M+e.size*2^n<=room ->
 Calls prog 59 #[.pointer (some ⟨mb,0,none⟩),x] w fun y w'=>∃ k:Int,y=.returned (.tuple #[.int .i64 k,.bool true])/\k+3<=nx+3*e.size/\Goes K n Od room w0 mb (fs++[(k,fnT e)]) (k+1) (NoW (M+Zhq n e.size)) o w w'
 | .nil,x,fs,nx,w,o,m,V,M,_,_,_,hv,_,_,_,_=>hv.elim
 | .mk op v nk kid,x,fs,nx,w,o,m,V,M,hsat,hwt,hb2,hval,hvars,h,hnx,hroom=>by
   unfold Za4 at h;obtain⟨a,c,rfl,h2,h3,h4,h5⟩:=h;obtain⟨v1,v2,v3,v4,v5,v6⟩:=hval;obtain⟨k1,k2,k3⟩:=Zw2 v1;have hblk:(w.alloc (.cells #[.int .i64 op,.int .i64 v,.slice a nk c] 79)).heap[w.heap.size]?=some (.cells #[.int .i64 op,.int .i64 v,.slice a nk c] 79 (0,0)):=heap_alloc_new _ _;have hb1:=Zae w (.cells #[.int .i64 op,.int .i64 v,.slice a nk c] 79);have hep:(ExT.mk op v nk kid).size*2^n=2^n+(sumN nk fun i=>(kid i).size)*2^n:=by
    show (1+sumN nk fun i=>(kid i).size)*2^n=_
    rw[Nat.add_mul,Nat.one_mul]
   have g0:BCtx K n Od room w0 mb fs nx M w (w.alloc (.cells #[.int .i64 op,.int .i64 v,.slice a nk c] 79)) o m V op v nk kid a c (ExT.mk op v nk kid) (fun y w'=>∃ k:Int,y=.returned (.tuple #[.int .i64 k,.bool true])/\k+3<=nx+3*(ExT.mk op v nk kid).size/\Goes K n Od room w0 mb (fs++[(k,fnT (ExT.mk op v nk kid))]) (k+1) (NoW (M+Zhq n (ExT.mk op v nk kid).size)) o w w'):=by
    refine⟨Hd hK,Hd h5,Hd fun i hi=>?_,Hd rfl,Hd (Ztf fun i=>(kid i).size_pos),Hd fun i x fs' nx' W o' m' V' M' hi q1 q2 q3 q4 q5 q6=>Zoy hK (kid i) x fs' nx' W o' m' V' M' q1 q2 q3 (v6 i hi) (fun u hu=>hvars u (by unfold Zcq;exact List.mem_append_right _ (Zpw hi hu))) q4 q5 q6,Hd rfl,Hd (Goes.refl (hsat.below hb1) hwt),Hd (hsat.below hb1),Hd hwt,Hd hb2,Hd ?_,Hd fun i hi=>?_,Hd (Zo2 n kid),Hd fun i=>Zh4 n (kid i).size_pos,Hd ⟨hep,Zh4 n (ExT.size_pos _)⟩,Hd hroom,by omega,hnx,ExT.size_pos _,by simp,by rw[cell_of_row _ _ 0 _ _ _ hblk];rfl,by rw[cell_of_row _ _ 1 _ _ _ hblk];rfl,by rw[cell_of_row _ _ 2 _ _ _ hblk];rfl,hsat.lt.none (Nat.le_refl _),?_,Nat.pow_pos (by omega),h2,h3⟩
    ·have:=Zfz (f:=fun i=>(kid i).size) hi
     show _<=1+sumN nk fun i=>(kid i).size
     omega
    . rintro k F W M' rfl hk hm g;exact⟨k,rfl,hk,(g.more hm).after (Zc2 hb1 o)⟩
    . have h1:=Zfz (f:=fun i=>(kid i).size) hi;have h2:=Nat.mul_le_mul_right (2^n) h1;rw[Nat.add_mul] at h2;omega
    . have:=hsat.chg.size;simp;omega
   rcases(show op=1\/op=2\/op=3\/(op=5\/op=6\/op=7)\/op=4\/(op=8\/op=9)\/op=10 by omega) with h1|h1|h1|h1|h1|h1|h1
   . exact Ztt g0 h1 (by subst h1;exact Zpc (.inl rfl) v nk kid)
   . exact Zrb g0 h1 (by subst h1;exact Zpc (.inr rfl) v nk kid)
   . have e1:=v2 h1;have e2:=hvars v (by unfold Zcq;rw[if_pos h1];simp);obtain⟨u,rfl⟩:∃ u:Nat,v=u:=⟨v.toNat,by omega⟩;exact Zv4 g0 (u:=u) (by omega) h1 rfl (by subst h1;exact Ycs u nk kid)
   . exact Zv0 g0 h1 (Ycp h1 v nk kid)
   ·have e:nk=1:=by subst h1;simp[Zel] at v4 v5;omega
    exact Zv2 g0 h1 e (by subst h1;subst e;exact Ycr v kid)
   ·have e:nk=2:=by rcases h1 with rfl|rfl<;>(simp[Zel] at v4 v5;omega)
    exact Zv3 g0 h1 e (by subst e;exact Zzl h1 v kid)
   ·have e:nk=3:=by subst h1;simp[Zel] at v4 v5;omega
    exact Zv1 g0 h1 e (by subst h1;subst e;exact Ycq v kid)
end
open Go.RowKit
theorem Zav.chgX {C:Nat->Prop}{o o':Own}{w w':World}{a:Option Addr}{zs:List Int}(h:Zav w a zs)(hc:ChgX C o o' w w')(hn:0<zs.length->∀ x,a=some x->o x.block=none/\¬ C x.block):Zav w' a zs :=
 ⟨h.len,fun k hk=>by
  obtain⟨b,off,rfl,c⟩:=h.cells k hk;have:=hn (by omega) _ rfl;exact⟨b,off,rfl,hc.cell c this.1 this.2⟩⟩
def ArrI (K:Law)(n room:Nat)(w0:World)(mb:Nat)(fs:List (Int×BF))(nx:Int)(o:Own)(w:World)(m:ManD)(P:List Nat->Prop)(W:World):Prop :=
 ∃ o' m' V',SatE K n P room w0 mb fs nx W o' m' V'/\m'.waits=m.waits/\m'.calls=m.calls/\ChgX NoB o o' w W/\(m'.d.pool.many<=m.d.pool.many\/m'.d.pool.many<=fs.length*2^n)
section
variable {K:Law}{n:Nat}{Od:List Nat->Prop}{room:Nat}{w0 w w':World}{mb:Nat}{fs:List (Int×BF)}{nx:Int}{o o':Own}{m m':ManD}{V V':Nat->BF}{P:List Nat->Prop}{W W':World}
theorem ArrI.below (h:ArrI K n room w0 mb fs nx o w m P W)(hb:Below W.heap.size W W'):ArrI K n room w0 mb fs nx o w m P W':=by
 obtain⟨o',m',V',h1,h2,h3,h4,h5⟩:=h;exact⟨o',m',V',h1.below hb,h2,h3,h4.trans (Zc2 hb o') (fun _ _ e=>e),h5⟩
theorem ArrI.imp (h:ArrI K n room w0 mb fs nx o w m P W){P':List Nat->Prop}(hP:∀ l,l.length=n->P l->P' l):ArrI K n room w0 mb fs nx o w m P' W:=by
 obtain⟨o',m',V',h1,h2,h3,h4,h5⟩:=h;exact⟨o',m',V',h1.withOd (hP _ h1.vars h1.od),h2,h3,h4,h5⟩
theorem ArrI.swap (h:ArrI K n room w0 mb fs nx o w m P W){k:Nat}(hk1:k+1<n)(hn:nx<=549755813888)(hr:3*(fs.length*2^n)<=room){P':List Nat->Prop}(hP:∀ l,l.length=n->P l->P' (exL l k)) :
 Calls prog 113 #[.pointer (some ⟨mb,0,none⟩),.int .i64 k] W fun e w'=>e=.returned (.int .i64 0)/\ArrI K n room w0 mb fs nx o w m P' w':=by
 obtain⟨o',m',V',h1,h2,h3,h4,h5⟩:=h;refine(Zmn h1 hk1 hn hr).mono ?_;rintro e w' ⟨rfl,o2,m2,V2,s⟩;refine⟨rfl,o2,m2,V2,s.sat.withOd ?_,s.waits.trans h2,s.calls.trans h3,h4.trans (ChgX.of_chg s.chg NoB) (fun _ _ e=>e),.inr (s.sat.few s.dead)⟩;rw[s.sat.od,Zqu];exact hP _ h1.vars h1.od
theorem Zq6 (h:SatE K n Od room w0 mb fs nx w o m V)(hn:nx<=549755813888)(hr:3*(fs.length*2^n)<=room){a:Option Addr}{c:Nat}{zs:List Int}(hz:Zav w a zs)(hno:0<zs.length->∀ x,a=some x->o x.block=none)(hp:zs.length=0\/Zvk zs n) :
 Calls prog 58 #[.pointer (some ⟨mb,0,none⟩),.slice a zs.length c] w fun x w'=>x=.returned (.bool true)/\ArrI K n room w0 mb fs nx o w m (fun l=>∀ j,j<zs.length->((l.getD j 0:Nat):Int)=at0 zs j) w':=by
 have gI:=hz.len;have hn64:n<=64:=by have:=h.ok.store.small;rw[h.vars] at this;exact this
 have HZ:Hid (∀ W P,ArrI K n room w0 mb fs nx o w m P W->Zav W a zs):=Hd fun W P ⟨o',m',V',_,_,_,h4,_⟩=>hz.chgX h4 fun h0 x hx=>⟨hno h0 x hx,fun e=>e⟩
 have ge:Hid (∀ W P,ArrI K n room w0 mb fs nx o w m P W->Calls prog 19 #[.pointer (some ⟨mb,0,none⟩)] W fun x w'=>∃ (a:Option Addr) (c:Nat) (l:List Nat),x=.returned (.slice a n c)/\l.length=n/\Zav w' a (l.map Int.ofNat)/\P l/\(∀ v,v<n->∃ i,i<n/\l.getD i 0=v)/\(∀ i j,i<n->j<n->l.getD i 0=l.getD j 0->i=j)/\Below W.heap.size W w'/\ArrI K n room w0 mb fs nx o w m (fun l'=>l'=l) w'):=by
  refine Hd fun W P hA=>?_
  obtain⟨o',m',V',h1,h2,h3,h4,h5⟩:=hA;refine(Zjk h1.is h1.lt (by rw[h1.vars];exact hn64)).mono ?_;rintro x w' ⟨v,rfl,hv,hb⟩;obtain⟨av,cv,rfl,gt,_⟩:=hv.sliceIs (by simp[h1.vars];omega);refine⟨av,cv,m'.d.vars,by rw[List.length_map,h1.vars],h1.vars,gt,h1.od,fun v hv=>?_,fun i j hi hj e=>?_,hb,o',m',V',(h1.below hb).withOd rfl,h2,h3,h4.trans (Zc2 hb o') (fun _ _ e=>e),h5⟩
  . have:=h1.ok.store.mem (v:=v) (by rw[h1.vars];exact hv);rw[h1.vars] at this;exact this
  . exact h1.ok.store.inj (by rw[h1.vars];exact hi) (by rw[h1.vars];exact hj) e
 have gj:Hid (∀ W P,ArrI K n room w0 mb fs nx o w m P W->∀ (k:Nat),k+1<n->∀ P':List Nat->Prop,(∀ l,l.length=n->P l->P' (exL l k))->Calls prog 113 #[.pointer (some ⟨mb,0,none⟩),.int .i64 k] W fun e w'=>e=.returned (.int .i64 0)/\ArrI K n room w0 mb fs nx o w m P' w') :=
  Hd fun W P hA k hk P' hP=>hA.swap hk hn hr hP
 have HP:=Hd hp;obtain⟨R,hR⟩:∃ R:(List Nat->Prop)->World->Prop,R=ArrI K n room w0 mb fs nx o w m:=⟨_,rfl⟩;have gE:Hid (R (fun l=>∀ j,j<0->((l.getD j 0:Nat):Int)=at0 zs j) w):=Hd (by rw[hR];exact⟨o,m,V,h.withOd (fun j hj=>by omega),rfl,rfl,ChgX.of_below (Below.refl _ _) o NoB,.inl (Nat.le_refl _)⟩);have gB:Hid (∀ P W W',R P W->Below W.heap.size W W'->R P W'):=Hd (by rw[hR];intro P W W' h1 h2;exact h1.below h2);have gk:Hid (∀ P P' W,R P W->(∀ l,l.length=n->P l->P' l)->R P' W):=Hd (by rw[hR];intro P P' W h1 h2;exact h1.imp h2);rw[<- hR] at HZ ge gj ⊢;clear h hz hno hp hr hn hR
 go_enter func58,ntmps58
 go_wp2_with fail
 go_loopw [5,6,7] (fun s5 s6 s7 wr=>∃ i:Nat,i<=zs.length/\s5=.int .i64 i/\Hid (R (fun l=>∀ j,j<i->((l.getD j 0:Nat):Int)=at0 zs j) wr)) (fun s5 _ _ _=>zs.length-(intOf s5).toNat)
 case atStart=>exact⟨0,Nat.zero_le _,rfl,gE⟩
 case round =>
  obtain⟨i,hi,rfl,HR⟩:=hrel
  by_cases gx:i<zs.length
  ·have gy:(i:Int)<zs.length:=by omega
   have g3:Zvk zs n:=by
    rcases HP.out with e|e
    . omega
    . exact e
   have gq:zs.length=n:=g3.len;obtain⟨zi,gr,ezi⟩:=g3.lt i (by omega);have gn:=Hd (ge.out wr _ HR.out);have gp:=Hd g3.inj;clear g3;go_wp2_with fail;refine gn.out.mono ?_;rintro x w3 ⟨av,cv,l,rfl,gh,gi,g8,ga,gc,gA,g6⟩;obtain⟨p,gg,g7⟩:=ga zi gr;have gz:i<=p:=by
    rcases Nat.lt_or_ge p i with h|h
    . exfalso;have e1:=g8 p h;rw[g7,<- ezi] at e1;have:=gp.out i p (by omega) gg e1;omega
    . exact h
   have go:=Hd gi;have gF:=Hd g8;have g5:=Hd g7;have gG:=Hd gc;have gm:=Hd g6;have gP:((n:Int) != (zs.length:Int))=false:=by rw[gq];simp
   obtain⟨bz,oz,ea,cz⟩:=(HZ.out w3 _ g6).cells i gx;subst ea;rw[ezi] at cz;have EZI:=Hd ezi;clear gi g8 g7 gc g6 ga gn gA ezi;go_wp2_with fail
   go_loopw [7] (fun s7 wr=>∃ q:Nat,i<=q/\q<=p/\s7=.int .i64 q/\Hid (Below w3.heap.size w3 wr)) (fun s7 _=>p-(intOf s7).toNat)
   case atStart=>exact⟨i,Nat.le_refl _,gz,rfl,Hd (Below.refl _ _)⟩
   case round =>
    rename World=>wq
    obtain⟨q,gw,gO,rfl,g0⟩:=hrel;have gM:(q:Int)<(n:Int):=by omega
    have g4:q<n:=by omega
    obtain⟨bv,ov,rfl,cq⟩:=(go.out.below g0.out).cells q (by rw[List.length_map,gh];exact g4);have cz':=(g0.out.cell (p:=⟨bz,oz+i,none⟩) (Zab cz)).trans cz;rw[Zf7 (by rw[gh];exact g4)] at cq;obtain⟨y,hy⟩:∃ y,y=l.getD q 0:=⟨_,rfl⟩;rw[<- hy] at cq;have HY:=Hd hy;clear hy;go_upto_region 8 with fail;refine Zan (fun W:World=>W.cell? ⟨bv,ov+q,none⟩=some (.int .i64 (y:Nat))/\W.cell? ⟨bz,oz+i,none⟩=some (.int .i64 (zi:Nat))/\Hid (Below w3.heap.size w3 W)) false 15
     [(0,false),(1,false),(2,false),(3,false),(4,false),(5,false),(6,false),(7,false),(8,false),(9,false),(10,false),(11,false),(12,false),(13,false),(14,false)] (by kernel_rfl) (by kernel_rfl) ⟨cq,cz',Hd (g0.out.trans ((Zag wq 1).mono g0.out.size))⟩ ?_
    simp only[planned,Zdd]
    iterate 5
     refine Zaj rfl ?_;apply Exists.intro;refine⟨fun w' hw=>?_,?_⟩
     . obtain⟨h1,h2,_⟩:=hw;go_simp;rfl
     simp only[Zai]
    iterate 9
     refine Zao true (by go_simp) ?_;apply Exists.intro;refine⟨fun gQ w' hw=>?_,?_⟩
     . obtain⟨h1,h2,_⟩:=hw;go_simp;rfl
     simp only[Zai]
    iterate 1
     refine Zaj rfl ?_;apply Exists.intro;refine⟨fun w' hw=>?_,?_⟩
     . obtain⟨h1,h2,_⟩:=hw;go_simp;rfl
     simp only[Zai]
    refine Zdm ?_
    by_cases gL:q<p
    ·have g9:((y:Int) != (zi:Int))=true:=by
      simp only[bne_iff_ne,ne_eq];intro e;have e2:l.getD q 0=l.getD p 0:=by rw[g5.out,<- HY.out];omega
      have:=gG.out q p g4 gg e2;omega
     go_wp2_with fail;go_roundw
     case rel=>exact⟨q+1,by omega,by omega,by go_num,Hd (g0.out.trans ((Zag wq 1).mono g0.out.size))⟩
     case measure=>simp[intOf];omega
    ·obtain rfl:q=p:=by omega
     have g9:((y:Int) != (zi:Int))=false:=by
      have:y=zi:=by rw[HY.out,g5.out]
      rw[this];simp
     have gN:((q:Int) == (n:Int))=false:=by simp;omega
     have gl:Hid (R (fun l'=>(∀ j,j<i->((l'.getD j 0:Nat):Int)=at0 zs j)/\l'.getD q 0=zi) wq.drew):=Hd (by
      have h1:=gB.out _ _ _ gm.out (g0.out.trans ((Zag wq 1).mono g0.out.size));exact gk.out _ _ _ h1 fun l' _ e=>by subst e;exact⟨gF.out,g5.out⟩)
     rw[g9];clear gm g0 go cq cz cz' g9;go_wp2_with fail
     go_loopw [4,7] (fun s4 s7 wr=>∃ q:Nat,i<=q/\q<n/\s7=.int .i64 q/\Hid (R (fun l'=>(∀ j,j<i->((l'.getD j 0:Nat):Int)=at0 zs j)/\l'.getD q 0=zi) wr)) (fun _ s7 _=>(intOf s7).toNat)
     case atStart=>exact⟨q,gw,g4,rfl,gl⟩
     case round =>
      clear gl HY g5
      rename World=>wt
      obtain⟨t,gK,gv,rfl,gd⟩:=hrel
      by_cases gJ:i<t
      ·obtain⟨t',rfl⟩:∃ t',t=t'+1:=⟨t-1,by omega⟩;have gu:((t'+1:Nat):Int)>i:=by omega
       have HS:=Hd (gj.out wt _ gd.out t' gv (fun l'=>(∀ j,j<i->((l'.getD j 0:Nat):Int)=at0 zs j)/\l'.getD t' 0=zi) (fun l' hl ⟨g1,g2⟩=>⟨fun j hj=>by rw[Ybl (by omega) (by omega)];exact g1 j hj,by rw[Zsj (by omega)];exact g2⟩));have gH:((t'+1:Nat):Int)-1=(t':Nat):=by omega
       go_upto_region 14 with fail;go_wp2_with fail;refine HS.out.mono ?_;rintro x w5 ⟨rfl,gf⟩;have gD:=Hd gf;clear gf HS gd;go_wp2_with fail;go_roundw
       case rel=>exact⟨t',by omega,by omega,by go_num,gD⟩
       case measure=>simp[intOf]
      ·obtain rfl:t=i:=by omega
       have gC:Hid (R (fun l=>∀ j,j<t+1->((l.getD j 0:Nat):Int)=at0 zs j) wt):=Hd (by
        refine gk.out _ _ _ gd.out fun l' _ ⟨g1,g2⟩ j hj=>?_
        rcases Nat.lt_or_ge j t with h|h
        . exact g1 j h
        ·obtain rfl:j=t:=by omega
         rw[g2,EZI.out])
       have gu:¬ (t:Int)>t:=by omega
       go_wp2_with fail;go_roundw
       case rel=>exact⟨t+1,by omega,by go_num,gC⟩
       case measure=>simp[intOf];omega
  ·have he:i=zs.length:=by omega
   have gy:¬ (i:Int)<zs.length:=by omega
   go_wp2_with fail;go_ret;exact⟨rfl,by rw[<- he];exact HR.out⟩
end
open Go.RowKit
theorem Zug (i n:Nat)(hi:i<=1048576)(hn:n<=16)(w:World):Calls prog 120 #[.int .i64 i,.int .i64 n] w fun x w'=>∃ v,x=.returned v/\OwnB w' w.heap.size v (Zdk i n)/\Below w.heap.size w w':=by
 go_enter func120,ntmps120
 go_wp2_with fail
 go_loopw [0,5,6] (fun s0 s5 s6 wr=>∃ j q:Nat,j<=n/\q<=1048576/\s6=.int .i64 j/\s0=.int .i64 q/\Hid (i/2^j=q)/\OwnB wr w.heap.size s5 (Zdk i j)/\w.heap.size<=wr.heap.size/\Below w.heap.size w wr) (fun _ _ s6 _=>n-(intOf s6).toNat)
 case atStart=>exact⟨0,i,Nat.zero_le _,hi,rfl,rfl,Hd (by simp),Zfu _ w _ (Nat.le_refl _),by simp,Zae w _⟩
 case round =>
  obtain⟨j,q,hj,hq,rfl,rfl,HQ,g0,g5,g1⟩:=hrel
  by_cases g7:j<n
  ·have HB:Hid (((q:Int).tmod 2 == 1)=bitB i j):=by
    refine Hd ?_;rw[tmod2];unfold bitB;rw[HQ.out]
   have g2:=Hd g0;have g3:=Hd g1;clear g0 g1;go_wp2_with (at_builtin;refine Zcr Zh6 _ rfl _ _ rfl w.heap.size _ (Zbu (Zdk i j)) _ rfl rfl rfl rfl rfl (by exact g2.out) (by simp[Zbu,Zeu];omega) g5 ?_;intro v1 w1 g4 e1 e2 e3 e4 g6);go_roundw
   case rel =>
    refine⟨j+1,q/2,by omega,by omega,by go_num,by go_num,Hd ?_,?_,by omega,Zh1 g3.out g2.out e1 e2 e3 e4 g6 g5⟩
    . rw[Nat.pow_succ,<- Nat.div_div_eq_div_mul,HQ.out]
    . rw[Zl8];unfold OwnB;rw[Zhn,<- HB.out];exact g4
   case measure=>simp[intOf];omega
  ·have he:j=n:=by omega
   subst he;have g2:=Hd g0;have g3:=Hd g1;clear g0 g1;go_wp2_with fail;go_ret;exact⟨_,rfl,g2.out,g3.out⟩
theorem Yak {T ST:TypeId}{z:Value}{b:Nat}(E:Zto T ST z b)(ty:TypeId)(wr:World)(base:Nat)(v:Value)(xs:List Value)(y:Value)(hy:y.oneCell'=true)(hown:OwnC T wr base v xs)(hlen:xs.length<1099511627776)(hbase:base<=wr.heap.size) :
 ∃ v' w',(Builtin.append_ #[ST,ST] ty #[v,.slice (some ⟨wr.heap.size,0,none⟩) 1 1]).run prog (wr.alloc (.cells #[y] T))=.ok v' w' /\
  OwnC T w' base v' (xs++[y])/\w'.os=wr.os/\w'.tape=wr.tape/\w'.output=wr.output/\wr.heap.size<=w'.heap.size/\Zc0 v v' wr w':=by
 obtain⟨i,hi,hz,g1,g3⟩:=info_parts E.info;have g2:=E.small;obtain⟨v',w',hr,h1,h2,_,g0⟩:=run_append_own_at (P:=prog) (wr.alloc (.cells #[y] T)) base ST ty T i z 1 b E.under hi hz g1 g3 (by rw[E.one];rfl) (by decide)
  v xs.length xs (hown.alloc _) ⟨wr.heap.size,0,none⟩ 1 1 [y] rfl (cell_one_new _ _ _) (by intro u hu;simp at hu;subst hu;exact hy) (by unfold maxLen;omega) (by
   have h1:(xs.length+1)*b<=1099511627776*100:=Nat.mul_le_mul (by omega) g2;omega) (by simp;omega)
 refine⟨v',w',hr,?_,h2.os,h2.tape,h2.output,?_,⟨Zd7 h2,g0.imp id fun e=>⟨_,e,by simp⟩⟩⟩
 . unfold OwnC;rw[List.length_append];exact h1
 . have:=h2.size;simp at this;omega
theorem OwnC.lower {T:TypeId}{w:World}{base b:Nat}{v:Value}{xs:List Value}(h:OwnC T w base v xs)(hb:b<=base):OwnC T w b v xs:=by
 refine⟨h.1,?_⟩;rcases h.2 with hn|⟨g,cap,cur,rfl,g0,rest⟩
 . exact .inl hn
 . exact .inr ⟨g,cap,cur,rfl,by omega,rest⟩
theorem Zlw (e:ExT)(x:Value)(n:Nat)(hn:n<=12)(w:World)(hs:e.size<=4096)(hok:okT e 1)(h:Za4 w e x) :
 Calls prog 60 #[x,.int .i64 n] w fun y w'=>∃ v,y=.returned v/\OwnB w' w.heap.size v (tabB n (fnT e))/\Below w.heap.size w w':=by
 have gv:Hid (∀ W,Below w.heap.size w W->∀ u,u=x->Calls prog 51 #[u] W fun y w'=>y=.returned (.int .i64 0)/\Below W.heap.size W w'):=Hd fun W hb u hu=>by
  subst hu
  exact(Zho e _ W hs (h.below hb)).mono (by
   rintro y w' ⟨err,rfl,h1,h2⟩;rw[h1.2 hok];exact⟨rfl,h2⟩)
 have gz:Hid (∀ W,Below w.heap.size w W->∀ u,u=x->∀ (ls:List Bool) al cl,Zf2 W al ls->Calls prog 119 #[u,.slice al ls.length cl] W fun y w'=>y=.returned (.bool (fnT e (Zcn ls)))/\Below W.heap.size W w'):=Hd fun W hb u hu ls al cl hl=>by
  subst hu;exact Zll ls al cl e _ W hok.valid (h.below hb) hl
 have gj:Hid (∀ j,j<=1048576->∀ W,Calls prog 120 #[.int .i64 (j:Nat),.int .i64 n] W fun x w'=>∃ v,x=.returned v/\OwnB w' W.heap.size v (Zdk j n)/\Below W.heap.size W w'):=Hd fun j hj W=>Zug j n hj (by omega) W
 have HS:Hid (∀ k,k<=n->2^k<=4096):=Hd fun k hk=>Nat.le_trans (Nat.pow_le_pow_right (by omega) (show k<=12 by omega)) (by decide)
 obtain⟨x0,x1,x2,hx,o0,o1,o2⟩:=h.agg;subst hx;obtain⟨w1,g5⟩:∃ w1,w1=w.alloc (.cells #[x0,x1,x2] 79):=⟨_,rfl⟩;have HW1:Hid (_=w1):=Hd g5.symm;have g7:Hid (Below w.heap.size w w1):=by rw[g5];exact Hd (Zae _ _)
 have g4:w1.heap[w.heap.size]?=some (.cells #[x0,x1,x2] 79 (0,0)):=by rw[g5];exact heap_alloc_new _ _
 have hs1:w1.heap.size=w.heap.size+1:=by rw[g5];simp
 have d0:w1.cell? ⟨w.heap.size,0,none⟩=some x0:=by rw[cell_of_row _ _ 0 _ _ _ g4];rfl
 have d1:w1.cell? ⟨w.heap.size,1,none⟩=some x1:=by rw[cell_of_row _ _ 1 _ _ _ g4];rfl
 have d2:w1.cell? ⟨w.heap.size,2,none⟩=some x2:=by rw[cell_of_row _ _ 2 _ _ _ g4];rfl
 obtain⟨L,hL⟩:∃ L,L=2^n:=⟨_,rfl⟩;have gE:=Hd hL;obtain⟨G,hG⟩:∃ G:Nat->Bool,G=fun i=>fnT e (Zcn (Zdk i n)):=⟨_,rfl⟩
 have HG:Hid (∀ i,fnT e (Zcn (Zdk i n))=G i):=Hd fun i=>by rw[hG]
 have HT:Hid (tabB n (fnT e)=(List.range L).map G):=Hd (by rw[hL,hG];rfl);have gK:L<=4096:=by rw[hL];exact HS.out n (Nat.le_refl _)
 rw[HT.out];clear h g5 g4 hG hL
 go_enter func60,ntmps60
 go_upto_region 1 with fail;rw[HW1.out];have gJ:¬ (n:Int)<0:=by omega
 have gH:¬ (n:Int)>12:=by omega
 go_wp2_with fail;refine(gv.out _ g7.out _ rfl).mono ?_;rintro y w2 ⟨rfl,gr⟩;have HB2:=Hd gr;clear gr gv;go_wp2_with fail
 go_loopw [5,6] (fun s5 s6 wr=>∃ k p:Nat,k<=n/\s5=.int .i64 p/\s6=.int .i64 k/\Hid (wr=w2)/\Hid (2^k=p)) (fun _ s6 _=>n-(intOf s6).toNat)
 case atStart=>exact⟨0,1,Nat.zero_le _,rfl,rfl,Hd rfl,Hd rfl⟩
 case round =>
  obtain⟨k,p,hk,rfl,rfl,gg,HP⟩:=hrel;have gI:p<=4096:=by rw[<- HP.out];exact HS.out k hk
  by_cases gm:k<n
  ·go_wp2_with fail;go_roundw
   case rel=>exact⟨k+1,2*p,by omega,by go_num,by go_num,gg,Hd (by rw[Nat.pow_succ,HP.out];omega)⟩
   case measure=>simp[intOf];omega
  ·obtain rfl:k=n:=by omega
   obtain rfl:p=L:=by rw[<- HP.out,gE.out]
   have gB:=gg.out;subst gB;obtain⟨w3,g8⟩:∃ w3,w3=wr.alloc (.cells #[] 4):=⟨_,rfl⟩;have gt:Hid (_=w3):=Hd g8.symm;have gf:Below w1.heap.size w1 w3:=by rw[g8];exact HB2.out.trans ((Zae _ _).mono HB2.out.size)
   have gh:Hid (OwnB w3 w1.heap.size (.slice (some ⟨wr.heap.size,0,none⟩) 0 0) []):=by rw[g8];exact Hd (Zfu _ _ _ HB2.out.size)
   have gx:=Hd gf;have gk:w1.heap.size<=w3.heap.size:=gf.size;clear g8 gf gm;go_upto_region 9 with fail;rw[gt.out];go_wp2_with fail
   go_loopw [7,8] (fun s7 s8 wr=>∃ j:Nat,j<=p/\s8=.int .i64 j/\Hid (OwnB wr w1.heap.size s7 ((List.range j).map G))/\Hid (Below w1.heap.size w1 wr)/\w1.heap.size<=wr.heap.size) (fun _ s8 _=>p-(intOf s8).toNat)
   case atStart=>exact⟨0,Nat.zero_le _,rfl,gh,gx,gk⟩
   case round =>
    clear gh gx gk gt gg HB2
    rename World=>wq
    obtain⟨j,hj,rfl,gu,g3,gC⟩:=hrel
    by_cases gm:j<p
    ·have e0:=(g3.out.cell (p:=⟨w.heap.size,0,none⟩) (Zab d0)).trans d0;have e1:=(g3.out.cell (p:=⟨w.heap.size,1,none⟩) (Zab d1)).trans d1;have e2:=(g3.out.cell (p:=⟨w.heap.size,2,none⟩) (Zab d2)).trans d2;have HL:=Hd (gj.out j (by omega) wq.drew);go_upto_region 12 with fail;refine Zan (fun W:World=>W.cell? ⟨w.heap.size,0,none⟩=some x0/\W.cell? ⟨w.heap.size,1,none⟩=some x1/\W.cell? ⟨w.heap.size,2,none⟩=some x2) false 9
      [(0,false),(1,false),(2,false),(3,false),(4,true),(5,true),(6,true),(7,true),(8,false)] (by kernel_rfl) (by kernel_rfl) ⟨e0,e1,e2⟩ ?_
     simp only[planned,Zdd]
     iterate 4
      refine Zaj rfl ?_;apply Exists.intro;refine⟨fun w' hw=>?_,?_⟩
      . obtain⟨h1,h2,h3⟩:=hw;go_simp;rfl
      simp only[Zai]
     refine Zbw (R:=fun v w'=>Zc7 w' v (Zdk j k)/\Below wq.heap.size wq w') rfl (by go_simp) (HL.out.mono (fun e w' he=>?_)) ?_
     . obtain⟨v,rfl,q1,q2⟩:=he;have q3:Below wq.heap.size wq w':=(Zag wq 1).trans (q2.mono (Zag wq 1).size);exact⟨v,rfl,⟨(q3.cell (p:=⟨w.heap.size,0,none⟩) (Zab e0)).trans e0,(q3.cell (p:=⟨w.heap.size,1,none⟩) (Zab e1)).trans e1,(q3.cell (p:=⟨w.heap.size,2,none⟩) (Zab e2)).trans e2⟩,q1.boolsIs (by rw[Zeu];omega),q3⟩
     rintro v w4 ⟨f0,f1,f2⟩ ⟨⟨av,cv,rfl,go,-⟩,gq⟩;have gw:=Hd go;have gd:=Hd gq;clear go gq e0 e1 e2 HL;simp only[Zai];refine Zbw (R:=fun v w'=>v=.bool (G j)/\Below w4.heap.size w4 w') rfl (by go_simp) ((gz.out w4 (g7.out.trans ((g3.out.trans (gd.out.mono g3.out.size)).mono g7.out.size)) _ rfl (Zdk j k) av cv gw.out).mono (fun e w' he=>?_)) ?_
     . obtain⟨rfl,q3⟩:=he;exact⟨_,rfl,⟨(q3.cell (p:=⟨w.heap.size,0,none⟩) (Zab f0)).trans f0,(q3.cell (p:=⟨w.heap.size,1,none⟩) (Zab f1)).trans f1,(q3.cell (p:=⟨w.heap.size,2,none⟩) (Zab f2)).trans f2⟩,by rw[HG.out],q3⟩
     rintro v w5 ⟨g0,g1,g2⟩ ⟨rfl,gp⟩;obtain⟨y,hy⟩:∃ y,y=G j:=⟨_,rfl⟩;rw[<- hy];have gD:Hid (Zbu ((List.range (j+1)).map G)=Zbu ((List.range j).map G)++[.bool y]):=Hd (by rw[Zmz,Zhn,hy]);have ga:=gd.out.trans (gp.mono gd.out.size);have gG:=Hd (g3.out.trans (ga.mono g3.out.size));have gi:=Hd (gu.out.below ga);have ge:w1.heap.size<=w5.heap.size:=Nat.le_trans gC ga.size;clear gp ga f0 f1 f2 hy gw gd;simp only[Zai];have gc:=Zae w5 (.cells #[.bool y] 4);refine Zic (v:=.slice (some ⟨w5.heap.size,0,none⟩) 1 1) (w':=w5.alloc (.cells #[.bool y] 4)) rfl (by go_simp) ⟨(gc.cell (p:=⟨w.heap.size,0,none⟩) (Zab g0)).trans g0,(gc.cell (p:=⟨w.heap.size,1,none⟩) (Zab g1)).trans g1,(gc.cell (p:=⟨w.heap.size,2,none⟩) (Zab g2)).trans g2⟩ ?_;simp only[Zai];obtain⟨v6,w6,gl,g9,q1,q2,q3,q4,gn⟩:=Yak Zh6 90 w5 w1.heap.size _ (Zbu ((List.range j).map G)) (.bool y) rfl gi.out (by simp[Zbu];omega) ge;have g6:=Zh1 gG.out gi.out q1 q2 q3 q4 gn ge;refine Zic (v:=v6) (w':=w6) rfl (Zko rfl rfl rfl gl) ⟨(g6.cell (p:=⟨w.heap.size,0,none⟩) (Zab d0)).trans d0,(g6.cell (p:=⟨w.heap.size,1,none⟩) (Zab d1)).trans d1,(g6.cell (p:=⟨w.heap.size,2,none⟩) (Zab d2)).trans d2⟩ ?_;simp only[Zai]
     iterate 1
      refine Zaj rfl ?_;apply Exists.intro;refine⟨fun w' hw=>?_,?_⟩
      . obtain⟨h1,h2,h3⟩:=hw;go_simp;rfl
      simp only[Zai]
     refine Zdm ?_;have gF:=Hd g6;have gA:=Hd g9;have gy:w1.heap.size<=w6.heap.size:=by omega
     clear g6 g9 q1 q2 q3 q4 gn gl g0 g1 g2 gc;go_wp2_with fail;go_roundw
     case rel=>exact⟨j+1,by omega,by go_num,Hd (by unfold OwnB;rw[gD.out];exact gA.out),gF,gy⟩
     case measure=>simp[intOf];omega
    ·obtain rfl:j=p:=by omega
     have HF:Hid (∃ v,Ending.returned u7=.returned v/\OwnB wq w.heap.size v ((List.range j).map G)/\Below w.heap.size w wq):=Hd ⟨u7,rfl,gu.out.lower (by omega),g7.out.trans (g3.out.mono g7.out.size)⟩;go_wp2_with fail;go_ret;exact HF.out
open Go.RowKit
section
variable {P:Program}(w:World)
theorem Zjv (t ty e:TypeId)(i:TypeInfo)(ht:P.underlying t=some (.slice e))(hi:P.info? e=some i)
 (g off sLen sCap:Nat) (cur:Array Value) (hg:w.heap[g]?=some (.cells cur e (0,0)))
 (a:Addr) (m c:Nat) (news:List Value) (hl:news.length=m*i.size) (hnews:∀ j u,news[j]?=some u->w.cell? (a.add j)=some u) (h1:∀ u∈news,u.oneCell'=true)
 (hroom:sLen+m<=sCap) (hfit:off+sLen*i.size+news.length<=cur.size) :
 (Builtin.append_ #[t,t] ty #[.slice (some ⟨g,off,none⟩) sLen sCap,.slice (some a) m c]).run P w =
  .ok (.slice (some ⟨g,off,none⟩) (sLen+m) sCap) (w.setRow g (cur.toList.take (off+sLen*i.size)++news++cur.toList.drop (off+sLen*i.size+news.length)).toArray):=by
 have hf:=run_firstCells_some (P:=P) w i.size m a m c news hl hnews;have g0:=run_storeCells_at P g (off+sLen*i.size) e news 0 cur w hg (by simpa using hfit) h1;simp only[Nat.add_zero] at g0;have g1:(⟨g,off,none⟩:Addr).add (sLen*i.size)=⟨g,off+sLen*i.size,none⟩:=by unfold Addr.add;split<;>simp_all
 simp[Builtin.append_,run_underlying ht,sizeOf,typeInfo,hi,Builtin.lenOf,hroom,hf,g1,g0]
end
theorem Ydw:(prog.info? 77).map (fun i=>(i.zero,i.size,i.bytes))=some (some (.agg #[.int .i64 0,.int .i64 0,.int .i64 0]),3,24):=by kernel_rfl
theorem Ycn (l:List Ev):∀ (j:Nat) (u:Value),(l.flatMap evL)[j]?=some u->∃ hk:j/3<l.length,(evL (l[j/3]))[j%3]?=some u:=by
 induction l with
 | nil=>intro j u h;simp at h
 | cons e l ih =>
   intro j u h;rw[List.flatMap_cons] at h
   by_cases hj:j<3
   ·rw[List.getElem?_append_left (by show j<3;exact hj)] at h;have e0:j/3=0:=by omega
    refine⟨by rw[e0];simp,?_⟩;have e1:j%3=j:=by omega
    simp only[e0,e1,List.getElem_cons_zero];exact h
   ·rw[List.getElem?_append_right (by show 3<=j;omega)] at h;obtain⟨hk,h2⟩:=ih (j-3) u h;have e0:j/3=(j-3)/3+1:=by omega
    have e1:j%3=(j-3)%3:=by omega
    refine⟨by rw[e0,List.length_cons];omega,?_⟩;simp only[e0,e1,List.getElem_cons_succ];exact h2
theorem EvsAt.news {w:World}{b off:Nat}{l:List Ev}(h:EvsAt w (some ⟨b,off,none⟩) l):∀ j u,(l.flatMap evL)[j]?=some u->w.cell? ((⟨b,off,none⟩:Addr).add j)=some u:=by
 intro j u hu;have g0:(⟨b,off,none⟩:Addr).add j=⟨b,off+j,none⟩:=by unfold Addr.add;split<;>simp_all
 obtain⟨hk,h2⟩:=Ycn l j u hu;obtain⟨b',off',e,c0,c1,c2⟩:=h.cells (j/3) hk;cases e;rw[g0];have hm:j%3<3:=Nat.mod_lt _ (by decide);rcases(by omega:j%3=0\/j%3=1\/j%3=2) with e|e|e<;>rw[e] at h2
 ·have e2:j=j/3*3:=by omega
  rw[e2,c0];exact h2
 ·have e2:j=j/3*3+1:=by omega
  rw[e2,<- Nat.add_assoc,c1];exact h2
 ·have e2:j=j/3*3+2:=by omega
  rw[e2,<- Nat.add_assoc,c2];exact h2
theorem Yco (l:List Ev):∀ u∈l.flatMap evL,u.oneCell'=true:=by
 intro u hu;obtain⟨e,_,h⟩:=List.mem_flatMap.1 hu;simp only[evL,List.mem_cons,List.not_mem_nil,or_false] at h;rcases h with rfl|rfl|rfl<;>rfl
theorem Zjq {o:Own}{w:World}{v:Value}{ws l:List Ev}{a:Option Addr}{c:Nat}(h:Zbr o w v ws)(hlt:Zah o w)(hev:EvsAt w a l)(hsm:ws.length+l.length<=1000)(ty:TypeId) :
 ∃ v' w' o',(Builtin.append_ #[24,24] ty #[v,.slice a l.length c]).run prog w=.ok v' w'/\Zbr o' w' v' (ws++l)/\Chg (· = .waits) o o' w w'/\Zah o' w':=by
 obtain⟨i,hi,hz,g3,gc⟩:=info_parts Ydw;have ht:=underlying24
 by_cases h0:l=[]
 ·subst h0;refine⟨v,w,o,?_,by rw[List.append_nil];exact h,Chg.refl _ _ _,hlt⟩;rcases h.ex with ⟨rfl,rfl⟩|⟨g,off,cap,cur,rfl,_,_,hn,_⟩
  . cases a<;>simp[Builtin.append_,run_underlying ht,sizeOf,typeInfo,hi,Builtin.lenOf,Builtin.firstCells,loadCells,loadCellsFrom]
  . cases a<;>simp[Builtin.append_,run_underlying ht,sizeOf,typeInfo,hi,Builtin.lenOf,hn,Builtin.firstCells,storeCells,loadCells,loadCellsFrom]
 ·have ga:0<l.length:=List.length_pos_iff.2 h0;obtain⟨b,off,rfl,_⟩:=hev.cells 0 ga;have g0:=hev.news;have gd:=Yco l;have g5:(l.flatMap evL).length=l.length*i.size:=by rw[g3];exact Zct l
  have g9:(ws.flatMap evL++l.flatMap evL).length=(ws++l).length*3:=by rw[List.length_append,Zct,Zct,List.length_append];omega
  have mk:∀ (old:Nat),Zbr (Zcl o w.heap.size .waits) (w.drew.alloc (.cells ((ws.flatMap evL).toArray++(l.flatMap evL).toArray++Builtin.zeroCells (Value.agg #[.int .i64 0,.int .i64 0,.int .i64 0]).cells (grownCap w (ws.length+l.length) old 77-(ws.length+l.length))) 77)) (.slice (some ⟨w.heap.size,0,none⟩) (ws.length+l.length) (grownCap w (ws.length+l.length) old 77)) (ws++l) /\
   Chg (· = .waits) o (Zcl o w.heap.size .waits) w (w.drew.alloc (.cells ((ws.flatMap evL).toArray++(l.flatMap evL).toArray++Builtin.zeroCells (Value.agg #[.int .i64 0,.int .i64 0,.int .i64 0]).cells (grownCap w (ws.length+l.length) old 77-(ws.length+l.length))) 77)) /\
   Zah (Zcl o w.heap.size .waits) (w.drew.alloc (.cells ((ws.flatMap evL).toArray++(l.flatMap evL).toArray++Builtin.zeroCells (Value.agg #[.int .i64 0,.int .i64 0,.int .i64 0]).cells (grownCap w (ws.length+l.length) old 77-(ws.length+l.length))) 77)):=by
   intro old;have gi:=grownCap_ge w (ws.length+l.length) old 77;have g6:grownCap w (ws.length+l.length) old 77<=maxLen:=grownCap_le_maxLen w _ old _ (by unfold maxLen;omega);refine⟨⟨.inr ⟨w.heap.size,0,_,_,by rw[List.length_append],Za8 _ _ _,heap_alloc_new w.drew _,by rw[List.length_append];exact gi,g6,?_,?_⟩⟩,((Chg.refl (· = .waits) o w).drewN 1).allocR (w':=w.drewN 1) hlt _ rfl,Zah.allocR (w:=w.drewN 1) hlt _ .waits⟩
   . have e3:(Value.agg #[.int .i64 0,.int .i64 0,.int .i64 0]).cells.size=3:=rfl;simp only[Array.size_append,List.size_toArray,size_zeroCells,e3,Zct,Nat.zero_add];omega
   . simp only[Array.toList_append,List.drop_zero,List.flatMap_append];rw[List.take_left' g9]
  rcases h.ex with ⟨rfl,rfl⟩|⟨g,off2,cap,cur,rfl,g8,hg,gh,g6,gj,g2⟩
  . have hr:=run_append_nil (P:=prog) w 24 ty 77 i _ ht hi hz ⟨b,off,none⟩ l.length c (l.flatMap evL) g5 g0 ga (by simp at hsm;omega) (by rw[gc];simp at hsm;omega);have hm:=mk 0;simp only[List.length_nil,Nat.zero_add,List.flatMap_nil,List.nil_append,Array.empty_append] at hm ⊢;exact⟨_,_,_,hr,hm⟩
  ·by_cases g4:ws.length+l.length<=cap
   ·have g1:off2+ws.length*i.size+(l.flatMap evL).length<=cur.size:=by rw[g5,g3];omega
    have hr:=Zjv (P:=prog) w 24 ty 77 i ht hi g off2 ws.length cap cur hg ⟨b,off,none⟩ l.length c (l.flatMap evL) g5 g0 gd g4 g1;refine⟨_,_,o,hr,⟨.inr ⟨g,off2,cap,_,by rw[List.length_append],g8,setRow_heap w g cur _ _ _ hg,by rw[List.length_append];exact g4,g6,?_,?_⟩⟩,⟨rfl,rfl,rfl,by simp,fun k _ hk=>setRow_other w g k _ (by rintro rfl;exact hk _ g8 rfl),fun _ _ h=>h,fun _ h=>(h rfl).elim⟩,fun k q hq=>by have:=hlt k q hq;simpa using this⟩
    . simp only[List.size_toArray,List.length_append,List.length_take,List.length_drop,Array.length_toList];omega
    ·rw[g3] at g1 ⊢;have e1:(cur.toList.take (off2+ws.length*3)).drop off2=ws.flatMap evL:=by
      rw[<- g2,List.drop_take,Nat.add_sub_cancel_left]
     have e2:off2<=(cur.toList.take (off2+ws.length*3)).length:=by
      have hq:ws.length*3<=cap*3:=Nat.mul_le_mul_right _ gh;have gg:off2+ws.length*3<=cur.size:=by clear g1;omega
      have gf:cur.toList.length=cur.size:=Array.length_toList;rw[List.length_take,gf,Nat.min_eq_left gg];exact Nat.le_add_right _ _
     simp only[List.append_assoc];rw[List.drop_append_of_le_length e2,e1,<- List.append_assoc,List.flatMap_append,List.take_left' g9]
   ·have g7:∀ j u,(ws.flatMap evL)[j]?=some u->w.cell? ((⟨g,off2,none⟩:Addr).add j)=some u:=by
     intro j u hu;have ge:(⟨g,off2,none⟩:Addr).add j=⟨g,off2+j,none⟩:=by unfold Addr.add;split<;>simp_all
     rw[ge,cell_of_row w g (off2+j) cur _ _ hg];rw[<- g2,List.getElem?_take] at hu;split at hu
     . rw[List.getElem?_drop] at hu;simpa using hu
     . cases hu
    have hr:=run_append_grow (P:=prog) w 24 ty 77 i _ ht hi hz ⟨g,off2,none⟩ ws.length cap (ws.flatMap evL) (by rw[g3];exact Zct ws) g7 ⟨b,off,none⟩ l.length c (l.flatMap evL) g5 g0 (by omega) (by omega) (growslice_fits (by omega) (by rw[gc];omega));exact⟨_,_,_,hr,mk cap⟩
open Go.RowKit
theorem Zbr.form {o:Own}{w:World}{v:Value}{ws:List Ev}(h:Zbr o w v ws):∃ a c,v=.slice a ws.length c:=by
 rcases h.ex with ⟨rfl,rfl⟩|⟨g,off,cap,cur,rfl,_⟩
 . exact⟨_,_,rfl⟩
 . exact⟨_,_,rfl⟩
theorem Zln {P:Program}{ops:Array Oper}{rest:List Oper}{op:Oper}{a:Act}{Q:Exit->Act->World->Prop}{w w':World}{vs vx v':Value}(hgd:op.guard=none)(s x:Operand)(t:TypeId)
 (hop:op.op=.call { callee:=.builtin .append,args:=#[s,x],argTypes:=#[t,t] }) (hs:a.eval s=vs) (hx:a.eval x=vx) (hr:(Builtin.append_ #[t,t] op.type #[vs,vx]).run P w=.ok v' w')
 (hK:wpList P ops Q rest (a.put op.dst v') w'):wpList P ops Q (op::rest) a w:=by
 refine wpList_plain hgd fun K g0=>?_
 unfold Oper.wp execOp;simp only[hop,resolve,invoke,builtin,Sem.run_bind,Sem.run_pure,Result.andThen_ok,List.map_toArray,List.map_cons,List.map_nil,hs,hx,hr];exact g0 _ _ hK
theorem Zby.setWaits {F:Phi}{o o':Own}{w w':World}{mb:Nat}{m:ManD}{s:ManW}(h:Zby F o w mb m s)(hlt:Zah o w){v':Value}{l':List Ev}(hw:Zbr o' w' v' l')(hc:Chg (· = .waits) o o' w w'):Zby F o' (w'.setCell ⟨mb,4,none⟩ v') mb { m with waits:=l' } { s with vw:=v' }:=by
 have key:∀ {g r},o g=some r->r ≠ .man->r ≠ .waits->(w'.setCell ⟨mb,4,none⟩ v').heap[g]?=w.heap[g]?:=by
  intro g r hg h1 h2;refine(Zaf (p:=⟨mb,4,none⟩) (fun e=>?_) _).trans (hc.same hlt hg h2);have e':g=mb:=e;subst e';have:=h.own;rw[hg] at this;cases this;exact h1 rfl
 refine⟨hc.ext _ _ h.own,?_,h.store.keepR (fun g r hg hr=>key hg (by rintro rfl;simp[Zap,Ze1] at hr) (by rintro rfl;simp[Zap,Ze1] at hr)) hc.ext,h.memo.keep (fun g r hg hr=>key hg (by rintro rfl;rcases hr with e|e<;>cases e) (by rintro rfl;rcases hr with e|e<;>cases e)) hc.ext,hc.ext _ _ h.ownh,h.map.keepB (key h.ownh (by simp) (by simp)),hw.keep (fun g hg=>Zaf (p:=⟨mb,4,none⟩) (fun e=>?_) _) (fun _ h=>h)⟩
 . exact Zac ((hc.same hlt h.own (by simp)).trans h.blk) _
 . have e':g=mb:=e;subst e';have:=hc.ext _ _ h.own;rw[hg] at this;cases this
section
variable {K:Law}{n:Nat}{Od:List Nat->Prop}{room:Nat}{w0 w w':World}{mb:Nat}{fs:List (Int×BF)}{nx:Int}{o o':Own}{m m':ManD}{V V':Nat->BF}
structure Planned (K:Law)(n:Nat)(Od:List Nat->Prop)(room:Nat)(w0:World)(mb:Nat)(fs:List (Int×BF))(nx:Int)(o:Own)(w:World)(m:ManD)(V:Nat->BF)(l:List Ev)(z:Int)(o':Own)(w':World)(m':ManD):Prop where
 sat:SatE K n Od room w0 mb fs nx w' o' m' V
 d:m'.d=m.d
 chg:Chg (fun _=>True) o o' w w'
 no:z≠0->m'.waits=m.waits/\m'.calls=m.calls
 yes:z=0->m'.waits=m.waits++l/\m'.calls=if m.waits=[] then 0 else m.calls
theorem Zrs (h:SatE K n Od room w0 mb fs nx w o m V){a:Option Addr}{c:Nat}{l:List Ev}(hev:EvsAt w a l)(hno:0<l.length->∀ x,a=some x->o x.block=none)(hwl:m.waits.length<=256) :
 Calls prog 61 #[.pointer (some ⟨mb,0,none⟩),.slice a l.length c] w fun e w'=>e=.returned (.int .i64 (Zes n m.waits.length l))/\∃ o' m',Planned K n Od room w0 mb fs nx o w m V l (Zes n m.waits.length l) o' w' m':=by
 obtain⟨Q,hQ⟩:∃ Q:Ending->World->Prop,Q=fun e w'=>e=.returned (.int .i64 (Zes n m.waits.length l))/\∃ o' m',Planned K n Od room w0 mb fs nx o w m V l (Zes n m.waits.length l) o' w' m':=⟨_,rfl⟩
 rw[<- hQ];have HQ:=Hd hQ;clear hQ;have gI:=hev.len;have hn64:n<=64:=by rw[<- h.vars];exact h.ok.store.small
 obtain⟨s,hs⟩:=h.is;obtain⟨c0,c1,c2,c3,c4,c5,f0⟩:=cells6 hs.blk;obtain⟨av,cv,gj⟩:=hs.waits.form
 have g1:Hid (∀ (z:Int) W,Below w.heap.size w W->Zes n m.waits.length l=z->z≠0->Q (.returned (.int .i64 z)) W):=Hd (by
  intro z W hb hz h0;rw[HQ.out,hz];exact⟨rfl,o,m,h.below hb,rfl,Chg.of_below hb _ _,fun _=>⟨rfl,rfl⟩,fun e=>(h0 e).elim⟩)
 have HV:Hid (∀ W,Below w.heap.size w W->Calls prog 62 #[.pointer (some ⟨mb,0,none⟩)] W fun e w'=>e=.returned (.int .i64 n)/\w'=W):=Hd (fun W hb=>(Zkv (h.below hb).is).mono fun e w' q=>⟨by rw[q.1,h.vars],q.2.symm⟩);have HI:=Hd hev;have HS:=Hd hs;have HH:=Hd h;have gF:=Hd hno;rw[gj] at c4;have gv:=Hd gj;have gD:=Hd hwl;clear h hs hev hno gj
 by_cases g9:(l.length:Int)>256-m.waits.length
 ·have HF:=Hd (g1.out 18 w (Below.refl _ _) (by unfold Zes;rw[if_pos g9]) (by decide))
  go_enter func61,ntmps61
  go_wp2_with fail;exact HF.out
 have HR:Hid (Zes n m.waits.length l=Zlt n (l.drop 0)):=Hd (by unfold Zes;rw[if_neg g9];rfl);obtain⟨P,hP⟩:∃ P,P=Zes n m.waits.length l:=⟨_,rfl⟩;rw[<- hP] at HR g1;have gE:=Hd hP;clear hP;have HM:=Hd g9
 go_enter func61,ntmps61
 go_wp2_with fail
 go_loopw [20] (fun s20 wr=>∃ i:Nat,i<=l.length/\s20=.int .i64 i/\Hid (Below w.heap.size w wr)/\Hid (P=Zlt n (l.drop i))) (fun s20 _=>l.length-(intOf s20).toNat)
 case atStart=>exact⟨0,Nat.zero_le _,rfl,Hd (Below.refl _ _),HR⟩
 case round =>
  clear HR;obtain⟨i,hi,rfl,HB,HP⟩:=hrel
  by_cases gg:i<l.length
  ·obtain⟨b,off,rfl,e0,e1,e2⟩:=(HI.out.below HB.out).cells i gg;have gB:(i:Int)<l.length:=by omega
   have HC:Hid (∀ z:Int,Zhd n l[i]=z->z≠0->P=z):=Hd fun z hz h0=>by rw[HP.out,Zg1 gg,hz,if_neg h0]
   have HN:Hid (Zhd n l[i]=0->P=Zlt n (l.drop (i+1))):=Hd fun hz=>by rw[HP.out,Zg1 gg,hz,if_pos rfl]
   have HE:Hid (Zhd n l[i]=if l[i].kind<1\/l[i].kind>3 then 11 else if l[i].after<1\/(l[i].kind=2/\(l[i].level<0\/l[i].level>(n:Int)-2)) then 2 else 0):=Hd rfl;obtain⟨ev,hev⟩:∃ ev,ev=l[i]:=⟨_,rfl⟩;rw[<- hev] at e0 e1 e2 HC HN HE;obtain⟨af,ki,le⟩:=ev;dsimp only at e0 e1 e2 HE;clear hev HP c0 c1 c2 c3 c4 c5 f0;obtain⟨W,hW⟩:∃ W,W=wr.alloc (.cells #[.int .i64 af,.int .i64 ki,.int .i64 le] 77):=⟨_,rfl⟩;have gh:Below w.heap.size w W:=HB.out.trans ((show Below wr.heap.size wr W by rw[hW];exact Zae wr _).mono HB.out.size);obtain⟨bx,gn⟩:∃ q,q=wr.heap.size:=⟨_,rfl⟩;have hx:W.heap[bx]?=some (.cells #[.int .i64 af,.int .i64 ki,.int .i64 le] 77 (0,0)):=by rw[hW,gn];exact heap_alloc_new wr _
   have b0:W.cell? ⟨bx,0,none⟩=some (.int .i64 af):=by rw[cell_of_row W _ 0 _ _ _ hx];rfl
   have b1:W.cell? ⟨bx,1,none⟩=some (.int .i64 ki):=by rw[cell_of_row W _ 1 _ _ _ hx];rfl
   have b2:W.cell? ⟨bx,2,none⟩=some (.int .i64 le):=by rw[cell_of_row W _ 2 _ _ _ hx];rfl
   have HW:=Hd hW;have gG:=Hd gn;have g0:=Hd gh;have g8:Hid (∀ q,Calls prog 62 #[.pointer (some ⟨mb,0,none⟩)] (W.drewN q) fun e w'=>e=.returned (.int .i64 n)/\w'=W.drewN q):=Hd (fun q=>HV.out _ (gh.trans ((Zag W q).mono gh.size)));have gi:=Hd gg;clear hW gn gh hx;go_upto_region 8 with fail;rw[<- HW.out,<- gG.out];have gz:ki<1\/ki>3\/(ki=2)\/(ki=1\/ki=3):=by omega
   rcases gz with hk|hk|hk|hk
   . have HF:=Hd (g1.out 11 W g0.out (HC.out 11 (by rw[HE.out,if_pos (.inl hk)]) (by decide)) (by decide));go_wp2_with fail;exact HF.out
   ·have HF:=Hd (g1.out 11 W g0.out (HC.out 11 (by rw[HE.out,if_pos (.inr hk)]) (by decide)) (by decide));have gA:¬ ki<1:=by omega
    go_wp2_with fail;exact HF.out
   ·by_cases ha:af<1
    ·have HF:Hid (∀ q,Q (.returned (.int .i64 2)) (W.drewN q)):=Hd (fun q=>g1.out 2 _ (g0.out.trans ((Zag W q).mono g0.out.size)) (HC.out 2 (by rw[HE.out,if_neg (by omega),if_pos (.inl ha)]) (by decide)) (by decide));subst hk;go_upto_region 10 with fail
     go_quiet (with_reducible exact Calls.quiet_of_same (g8.out _))
     go_wp2_with fail;exact HF.out _
    ·by_cases gy:le<0
     ·have HF:Hid (∀ q,Q (.returned (.int .i64 2)) (W.drewN q)):=Hd (fun q=>g1.out 2 _ (g0.out.trans ((Zag W q).mono g0.out.size)) (HC.out 2 (by rw[HE.out,if_neg (by omega),if_pos (.inr ⟨hk,.inl gy⟩)]) (by decide)) (by decide));subst hk;go_upto_region 10 with fail
      go_quiet (with_reducible exact Calls.quiet_of_same (g8.out _))
      go_wp2_with fail;exact HF.out _
     ·by_cases gc:le>=(n:Int)-1
      ·have HF:Hid (∀ q,Q (.returned (.int .i64 2)) (W.drewN q)):=Hd (fun q=>g1.out 2 _ (g0.out.trans ((Zag W q).mono g0.out.size)) (HC.out 2 (by rw[HE.out,if_neg (by omega),if_pos (.inr ⟨hk,.inr (by omega)⟩)]) (by decide)) (by decide));subst hk;go_upto_region 10 with fail
       go_quiet (with_reducible exact Calls.quiet_of_same (g8.out _))
       go_wp2_with fail;exact HF.out _
      ·have gd:=Hd (HN.out (by rw[HE.out,if_neg (by omega),if_neg (by omega)]));subst hk;go_upto_region 10 with fail
       go_quiet (with_reducible exact Calls.quiet_of_same (g8.out _))
       have gp:=Hd (g0.out.trans ((Zag W nq).mono g0.out.size));go_wp2_with fail;go_roundw
       case rel=>exact⟨i+1,Nat.succ_le_of_lt gi.out,by go_num,gp,gd⟩
       case measure =>
        have:=gi.out;simp[intOf];omega
   ·have gA:¬ ki<1:=by omega
    have gK:¬ ki>3:=by omega
    have gJ:(ki == 2)=false:=by simp;omega
    by_cases ha:af<1
    ·have HF:Hid (∀ q,Q (.returned (.int .i64 2)) (W.drewN q)):=Hd (fun q=>g1.out 2 _ (g0.out.trans ((Zag W q).mono g0.out.size)) (HC.out 2 (by rw[HE.out,if_neg (by omega),if_pos (.inl ha)]) (by decide)) (by decide));clear hk;go_upto_region 10 with fail
     go_quiet (with_reducible exact Calls.quiet_of_same (g8.out _))
     go_wp2_with fail;exact HF.out _
    ·have gd:=Hd (HN.out (by rw[HE.out,if_neg (by omega),if_neg (by omega)]));clear hk;go_upto_region 10 with fail
     go_quiet (with_reducible exact Calls.quiet_of_same (g8.out _))
     have gp:=Hd (g0.out.trans ((Zag W nq).mono g0.out.size));go_wp2_with fail;go_roundw
     case rel=>exact⟨i+1,Nat.succ_le_of_lt gi.out,by go_num,gp,gd⟩
     case measure =>
      have:=gi.out;simp[intOf];omega
  ·have he:i=l.length:=by omega
   have gB:¬ (i:Int)<l.length:=by omega
   have gd:Hid (P=0):=Hd (by rw[HP.out,he,List.drop_length];rfl);clear he;have hs':=HS.out.below HH.out.lt HB.out;have g3:=HH.out.lt.mono HB.out.size;have gq:m.waits.length+l.length<=1000:=by have:=HM.out;have:=gD.out;omega
   have go:Hid (∀ (cl:Int) (W:World) (hm:Zby (K m.d V) o W mb { m with calls:=cl } s) (hl:Zah o W) (hc:Chg (fun _=>True) o o w W) (v':Value) (W':World) (o':Own),cl=(if m.waits=[] then 0 else m.calls)->Zbr o' W' v' (m.waits++l)->Chg (· = .waits) o o' W W'->Zah o' W'->Q (.returned (.int .i64 0)) (W'.setCell ⟨mb,4,none⟩ v')):=Hd (by
    intro cl W hm hl hc v' W' o' gC hw gm gx;rw[HQ.out,<- gE.out,gd.out];have gw:=hm.setWaits hl hw gm;have gt:Chg (fun _=>True) o o' w (W'.setCell ⟨mb,4,none⟩ v'):=(hc.trans gm.any).setCell (p:=⟨mb,4,none⟩) (gm.ext _ _ hm.own) trivial _;exact⟨rfl,o',{ m with waits:=m.waits++l,calls:=cl },⟨⟨_,gw⟩,gx.mono (by simp[World.setCell]),⟨HH.out.ok.store,⟨HH.out.ok.handles.nodup,HH.out.ok.handles.zero,HH.out.ok.handles.one,HH.out.ok.handles.lt,HH.out.ok.handles.next,HH.out.ok.handles.ok,HH.out.ok.handles.len,HH.out.ok.handles.refs⟩⟩,HH.out.vars,HH.out.od,HH.out.room,HH.out.next,HH.out.hs,HH.out.chg.lower (ChgX.of_chg gt NoB) (fun _ e=>e.elim)⟩,rfl,gt,fun e=>(e rfl).elim,fun _=>⟨rfl,gC⟩⟩)
   have ge:=HI.out.below HB.out;clear c0 c1 c2 c3 c4 c5 f0;obtain⟨c0,c1,c2,c3,c4,c5,f0⟩:=cells6 hs'.blk
   by_cases hw0:m.waits=[]
   ·have hz:m.waits.length=0:=by rw[hw0];rfl
    have HZ:=Hd hz;have g7:Zby (K m.d V) o (wr.setCell ⟨mb,5,none⟩ (.int .i64 0)) mb { m with calls:=0 } s:=hs'.field rfl rfl rfl rfl rfl (hs'.waits) rfl;have gu:Chg (fun _=>True) o o w (wr.setCell ⟨mb,5,none⟩ (.int .i64 0)):=(Chg.of_below HB.out _ _).setCell (p:=⟨mb,5,none⟩) hs'.own trivial _;have gc:Zah o (wr.setCell ⟨mb,5,none⟩ (.int .i64 0)):=g3.mono (by simp[World.setCell])
    have gr:EvsAt (wr.setCell ⟨mb,5,none⟩ (.int .i64 0)) a l:=⟨ge.len,fun k hk=>by
     obtain⟨b,off,e,q0,q1,q2⟩:=ge.cells k hk;have gl:mb≠b:=by
      rintro rfl;have:=gF.out (by omega) _ e;have h2:=hs'.own;rw[h2] at this;cases this
     exact⟨b,off,e,Zat q0 (.inl gl),Zat q1 (.inl gl),Zat q2 (.inl gl)⟩⟩
    obtain⟨v',w2,o2,g2,g4,g5,ga⟩:=Zjq (c:=c) g7.waits gc gr gq 24;obtain⟨av2,cv2,gk⟩:=g4.form;subst gk;have HF:=Hd (go.out 0 _ g7 gc gu _ w2 o2 (by rw[if_pos hw0]) g4 g5 ga);obtain⟨k0,k1,k2,k3,k4,k5,kf⟩:=cells6 g7.blk;have g6:=(g5.same gc g7.own (by simp)).trans g7.blk;obtain⟨j0,j1,j2,j3,j4,j5,jf⟩:=cells6 g6;rw[gv.out,hz] at c4 k4 g2;clear hs' g3 g7 gu gc gr g4 g5 ga ge hw0 g6 k0 k1 k2 k3 k5 kf;have gf:=Hd g2;clear g2;go_upto_region 15 with fail;go_wp2_with (refine Zln rfl _ _ _ rfl rfl rfl gf.out ?_);have hq:=HF.out;rw[List.length_append,HZ.out,Nat.zero_add] at hq;exact hq
   ·have hz:0<m.waits.length:=List.length_pos_iff.2 hw0;have gH:((m.waits.length:Int) == 0)=false:=by rw[beq_eq_false_iff_ne];omega
    obtain⟨v',w2,o2,g2,g4,g5,ga⟩:=Zjq (c:=c) hs'.waits g3 ge gq 24;obtain⟨av2,cv2,gk⟩:=g4.form;subst gk;have HF:=Hd (go.out m.calls _ hs' g3 (Chg.of_below HB.out _ _) _ w2 o2 (by rw[if_neg hw0]) g4 g5 ga);have g6:=(g5.same g3 hs'.own (by simp)).trans hs'.blk;obtain⟨j0,j1,j2,j3,j4,j5,jf⟩:=cells6 g6;rw[gv.out] at c4 g2;clear hs' g3 g4 g5 ga ge hw0 g6 hz;have gf:=Hd g2;clear g2;go_upto_region 15 with fail;go_wp2_with (refine Zln rfl _ _ _ rfl rfl rfl gf.out ?_);have hq:=HF.out;rw[List.length_append] at hq;exact hq
end
open Go.RowKit
section
variable {K:Law}{n:Nat}{room:Nat}{w0:World}{mb:Nat}{fs hs:List (Int×BF)}{nx:Int}{W w w':World}{o o':Own}{m m':ManD}{V V':Nat->BF}{vl vx:Value}{ws0:List Ev}
theorem Zyx {n:Nat}(h:n<=16):2^n<=1000000:=Nat.le_trans (Nat.pow_le_pow_right (by omega) h) (by decide)
abbrev SufW (ws0:List Ev):List Ev->Int->Prop:=fun ws _=>ws <:+ ws0
theorem Ydz (hK:Zc8 K)(h:SatE K n (fun _=>True) room w0 mb fs nx w o m V)(hw:m.waits <:+ ws0)(hn:nx<=549755813888)(hr:(fs.length+1)*2^n<=room){kf kg kh:Int}{F G H:BF}(hf:(kf,F)∈fs)(hg:(kg,G)∈fs)(hh:(kh,H)∈fs) :
 Calls prog 94 #[.pointer (some ⟨mb,0,none⟩),.int .i64 kf,.int .i64 kg,.int .i64 kh] w fun x w''=>x=.returned (.tuple #[.int .i64 nx,.int .i64 0])/\Goes K n (fun _=>True) room w0 mb (fs++[(nx,Zed F G H)]) (nx+1) (W2 (SufW ws0)) o w w'':=by
 refine(Zmm hK h ws0 hw none (fun _ e=>by cases e) (fun _ e=>by cases e) (fun ev _=>Zmj hn ev) (by omega) hf hg hh).mono ?_;rintro x w'' hp;obtain⟨o2,m2,V2,q1,q2,q3,q4⟩:=Zp2 hp (Nat.sub_le _ _) hr;exact⟨q3,o2,m2,V2,q1,q2,q4⟩
end
open Go.RowKit
def Zck (n:Nat):Nat:=4*2^(2*n)+192*2^n
theorem Ztz (n:Nat)(hn:n<=8)(w:World):Calls prog 112 #[.int .i64 n,.int .i64 40] w fun x w'=>x=.returned (.int .i64 (Zck n))/\w=w':=by
 have HB:Hid (∀ (z:Int) (k:Nat),z=k->k<=16->Calls prog 158 #[.int .i64 z] w fun x w'=>x=.returned (.int .i64 (2^k:Nat))/\w=w'):=Hd fun z k e hk=>by subst e;exact Yca k (by omega) w
 have hA:2^(2*n)<=65536:=Nat.le_trans (Nat.pow_le_pow_right (by omega) (show 2*n<=16 by omega)) (by decide);have hB:2^n<=65536:=Nat.le_trans (Nat.pow_le_pow_right (by omega) (show n<=16 by omega)) (by decide);have g0:=Hd (fun z e=>HB.out z (2*n) e (by omega));have HB2:=Hd (fun z e=>HB.out z n e (by omega));unfold Zck;obtain⟨a,ha⟩:∃ a,a=2^(2*n):=⟨_,rfl⟩;obtain⟨b,hb⟩:∃ b,b=2^n:=⟨_,rfl⟩;rw[<- ha] at hA g0 ⊢;rw[<- hb] at hB HB2 ⊢;clear ha hb HB
 go_enter func112,ntmps112
 go_wp2_with fail;refine(g0.out _ (by omega)).mono ?_;rintro x w' ⟨rfl,rfl⟩;go_wp2_with fail;refine(HB2.out _ (by omega)).mono ?_;rintro x w' ⟨rfl,rfl⟩;go_wp2_with fail;go_ret;exact⟨by congr 2,rfl⟩
theorem Zu0 (n:Nat)(hn:n<=8)(w:World):Calls prog 57 #[.int .i64 n,.int .i64 40] w fun x w'=>x=.returned (.int .i64 (Zck n))/\w=w':=by
 have HE:=Hd (Ztz n hn w)
 go_enter func57,ntmps57
 go_wp2_with fail;refine HE.out.mono ?_;rintro x w' ⟨rfl,rfl⟩;go_wp2_with fail;go_ret;exact⟨rfl,rfl⟩
theorem Zyc {n:Nat}(hn:n<=6):1<=Zck n/\Zck n<=1048576:=by
 have h1:2^(2*n)<=4096:=Nat.le_trans (Nat.pow_le_pow_right (by omega) (show 2*n<=12 by omega)) (by decide);have h2:2^n<=64:=Nat.le_trans (Nat.pow_le_pow_right (by omega) hn) (by decide);have h3:0<2^n:=Nat.pow_pos (by omega);unfold Zck;omega
theorem Zfv {n k:Nat}(hk:k<=192):k*2^n<=Zck n:=by
 have:=Nat.mul_le_mul_right (2^n) hk;unfold Zck;omega
theorem Zu1 {n j s:Nat}(hn:1<=n)(hs:s<=40)(hj:j<5):2*2^n+j*(39*2^n+1)+s*2^n<=Zck n:=by
 have h1:=Nat.mul_le_mul_right (2^n) hs;have h2:=Nat.mul_le_mul_right (39*2^n+1) (Nat.le_of_lt_succ hj);have h3:2^1<=2^n:=Nat.pow_le_pow_right (by omega) hn;have h4:2^(n+1)<=2^(2*n):=Nat.pow_le_pow_right (by omega) (by omega);rw[Nat.pow_succ] at h4;unfold Zck;omega
theorem Zu2 {n j s k:Nat}(hs:s<=40)(h1:1<=s)(h:k<=2*2^n+j*(39*2^n+1)+Zhq n s):k<=2*2^n+(j+1)*(39*2^n+1):=by
 have h2:=Zh4 n h1;have h3:=Nat.mul_le_mul_right (2^n) hs;rw[Nat.add_mul];have h4:0<2^n:=Nat.pow_pos (by omega);omega
theorem Yai {n j k:Nat}(hj:j<=5)(h:k<=2*2^n+j*(39*2^n+1))(hn:2<=n):k+7<=Zck n:=by
 have h2:=Nat.mul_le_mul_right (39*2^n+1) hj;have h3:2^2<=2^n:=Nat.pow_le_pow_right (by omega) hn;have h4:2^(n+2)<=2^(2*n):=Nat.pow_le_pow_right (by omega) (by omega);rw[Nat.pow_add] at h4;unfold Zck;omega
def two:List (Int×BF):=[(0,fun _=>false),(1,fun _=>true)]
theorem Yby:B2 two:=⟨by simp[two],by simp[two]⟩
theorem Zsv {K:Law}(n room:Nat)(w:World)(hn:n<=64)(h1:1<=room)(h2:room<=1048576) :
 Calls prog 39 #[.int .i64 n,.int .i64 room] w fun x w'=>∃ mb,x=.returned (.tuple #[.pointer (some ⟨mb,0,none⟩),.int .i64 0])/\∃ o m V,SatE K n (fun _=>True) room w mb two 2 w' o m V/\m.waits=[]/\m.calls=0/\m.d.pool.many=0:=by
 refine(Yc4 (F:=K (man0 n room).d (fun _ _=>true)) (fun _=>none) n room w (fun k r h=>by cases h) hn h1 h2).mono ?_;rintro x w1 ⟨mb,o1,rfl,g0,g2,g1,_⟩;exact⟨mb,rfl,o1,man0 n room,fun _ _=>true,⟨g0,g1,Yc2 n room hn,by simp[man0,store0],trivial,by simp[man0,store0,pool0],rfl,by simp[man0,two,ef];constructor<;>rfl,ChgX.of_chg g2 NoB⟩,rfl,rfl,rfl⟩
def OrdP (zs:List Int)(l:List Nat):Prop:=∀ j,j<zs.length->((l.getD j 0:Nat):Int)=at0 zs j
def SetP (K:Law)(q:AskD)(n:Nat)(w:World)(y:Ending)(w':World):Prop :=
 ∃ mb vl vx wb hs nx,y=.returned (.tuple #[.pointer (some ⟨mb,0,none⟩),vl,vx,.bool true])/\Below w.heap.size w wb/\hs.map Prod.snd=q.es.map fnT/\nx<=1000/\∃ o m V,LawT K n (OrdP q.order) (Zck n) wb mb (two++hs) nx (fun ws c=>ws=q.plan/\c=0) hs hs w' o m V vl vx/\(2<=n->m.d.pool.many+7<=Zck n)
def SetI (K:Law)(q:AskD)(n:Nat)(wb:World)(mb:Nat)(j:Nat)(s8 s9:Value)(W:World):Prop :=
 ∃ hs nx,hs.map Prod.snd=(q.es.take j).map fnT/\nx<=2+120*(j:Int)/\∃ o m V,LawT K n (OrdP q.order) (Zck n) wb mb (two++hs) nx (fun ws c=>ws=[]/\True) hs hs W o m V s8 s9/\m.d.pool.many<=2*2^n+j*(39*2^n+1)
theorem Zk9 {K:Law}(hK:Zc8 K)(q:AskD)(ao ae ap:Option Addr)(co ce cp:Nat)(w:World)(h:AskAt w q ao ae ap)(hsm:Zhc q)(n:Nat)(hqn:q.vars=n) :
 Calls prog 17 #[askV q ao ae ap co ce cp] w (SetP K q n w):=by
 have hM:=hsm.lo;have hO:=hsm.hi;have hP:=hsm.es;have hL:=hsm.plan;have gL:=Hd hsm;have hr:=Hd h;have hu:n<=6:=by omega
 have hy:1<=n:=by omega
 have gD:=Zyc hu;obtain⟨Q,hQ⟩:∃ Q:Ending->World->Prop,Q=SetP K q n w:=⟨_,rfl⟩;rw[<- hQ];have HQ:=Hd hQ;obtain⟨w1,gg⟩:∃ w1,w1=w.alloc (.cells #[.int .i64 q.vars,.slice ao q.order.length co,.slice ae q.es.length ce,.slice ap q.plan.length cp] 26):=⟨_,rfl⟩;have HW1:Hid (_=w1):=Hd gg.symm;have hd:Hid (Below w.heap.size w w1):=by rw[gg];exact Hd (Zae _ _)
 have g0:w1.heap[w.heap.size]?=some (.cells #[.int .i64 q.vars,.slice ao q.order.length co,.slice ae q.es.length ce,.slice ap q.plan.length cp] 26 (0,0)):=by rw[gg];exact heap_alloc_new _ _
 have hs1:w1.heap.size=w.heap.size+1:=by rw[gg];simp
 have gP:=Hd hqn;rw[hqn] at g0 HW1;have d0:w1.cell? ⟨w.heap.size,0,none⟩=some (.int .i64 (n:Nat)):=by rw[cell_of_row _ _ 0 _ _ _ g0];rfl
 have d1:w1.cell? ⟨w.heap.size,1,none⟩=some (.slice ao q.order.length co):=by rw[cell_of_row _ _ 1 _ _ _ g0];rfl
 have d2:w1.cell? ⟨w.heap.size,2,none⟩=some (.slice ae q.es.length ce):=by rw[cell_of_row _ _ 2 _ _ _ g0];rfl
 have d3:w1.cell? ⟨w.heap.size,3,none⟩=some (.slice ap q.plan.length cp):=by rw[cell_of_row _ _ 3 _ _ _ g0];rfl
 have gZ:=hqn;unfold askV;rw[gZ];obtain⟨rm,gl⟩:∃ rm,rm=Zck n:=⟨_,rfl⟩;have gM:=Hd gl;have gN:=Hd (fun W=>Zu0 n (by omega) W);rw[<- gl] at gN gD;clear h hsm hQ gg g0 gl hqn gZ;have gR:=Hd (Zsv (K:=K) n rm w1.drew (by omega) gD.1 gD.2)
 go_enter func17,ntmps17
 go_upto_region 1 with fail;rw[HW1.out];refine Zan (fun W:World=>W.cell? ⟨w.heap.size,0,none⟩=some (.int .i64 (n:Nat))/\True) false 11 [(0,false),(1,false),(2,false),(3,false),(4,true),(5,true),(6,false),(7,false),(8,false),(9,false),(10,false)] (by kernel_rfl) (by kernel_rfl) ⟨d0,trivial⟩ ?_;simp only[planned,Zdd]
 iterate 4
  refine Zaj rfl ?_;apply Exists.intro;refine⟨fun w' hw=>?_,?_⟩
  . obtain⟨h1,_⟩:=hw;go_simp;rfl
  simp only[Zai]
 refine Zbw (R:=fun v w'=>v=.int .i64 (rm:Nat)/\w'=w1.drew) rfl (by go_simp) ((gN.out _).mono (fun e w' he=>?_)) ?_
 . obtain⟨rfl,rfl⟩:=he;exact⟨_,rfl,⟨d0,trivial⟩,rfl,rfl⟩
 rintro v w'-⟨rfl,rfl⟩;simp only[Zai];refine Zbw (R:=fun v w'=>∃ mb,v=.tuple #[.pointer (some ⟨mb,0,none⟩),.int .i64 0]/\∃ o m V,SatE K n (fun _=>True) rm w1.drew mb two 2 w' o m V/\m.waits=[]/\m.calls=0/\m.d.pool.many=0) rfl (by go_simp) (gR.out.mono (fun e w' he=>?_)) ?_
 . obtain⟨mb,rfl,o,m,V,g5,gU⟩:=he;exact⟨_,rfl,⟨(g5.chg.below0.cell (p:=⟨w.heap.size,0,none⟩) (Zab (w:=w1.drew) d0)).trans d0,trivial⟩,mb,rfl,o,m,V,g5,gU⟩
 rintro v w2-⟨mb,rfl,o,m,V,g5,gV,hD,h2⟩;simp only[Zai]
 iterate 5
  refine Zaj rfl ?_;apply Exists.intro;refine⟨fun w' hw=>?_,?_⟩
  . obtain⟨h1,_⟩:=hw;go_simp;rfl
  simp only[Zai]
 refine Zdm ?_;obtain⟨wb,g7⟩:∃ wb,wb=w1.drew:=⟨_,rfl⟩;rw[<- g7] at g5;have hb:Hid (Below w.heap.size w wb):=Hd (by rw[g7];exact hd.out.trans ((Zag w1 1).mono hd.out.size));have c0:wb.cell? ⟨w.heap.size,0,none⟩=some (.int .i64 (n:Nat)):=by rw[g7];exact d0
 have c1:wb.cell? ⟨w.heap.size,1,none⟩=some (.slice ao q.order.length co):=by rw[g7];exact d1
 have c2:wb.cell? ⟨w.heap.size,2,none⟩=some (.slice ae q.es.length ce):=by rw[g7];exact d2
 have c3:wb.cell? ⟨w.heap.size,3,none⟩=some (.slice ap q.plan.length cp):=by rw[g7];exact d3
 have hR:w.heap.size<wb.heap.size:=Zab c0;have gj:=Hd (hr.out.below hb.out);clear g7 gR gN d0 d1 d2 d3 HW1 hs1
 have gT:=Hd (Zq6 (K:=K) g5 (by omega) (by rw[gM.out];have:=Zfv (n:=n) (k:=6) (by omega);simp[two];omega) (c:=co) (gj.out.order.below g5.chg.below0) (fun h0 x hx=>by
  obtain⟨b,off,e,hc⟩:=gj.out.order.cells 0 h0;rw[hx] at e;cases e;exact g5.none0 (Zab hc)) (by
  rcases Nat.eq_zero_or_pos q.order.length with h0|h0
  . exact .inl h0
  . have:=gL.out.order h0;rw[gP.out] at this;exact .inr (Zii this)))
 have e0:=(g5.chg.below0.cell (p:=⟨w.heap.size,0,none⟩) (Zab c0)).trans c0;have e1:=(g5.chg.below0.cell (p:=⟨w.heap.size,1,none⟩) (Zab c1)).trans c1;have HWT:=Hd gV;have hI:=Hd h2;clear g5 gV hD h2;go_wp2_with fail;refine gT.out.mono ?_;rintro y w3 ⟨rfl,o3,m3,V3,gc,gy,hn,hE,gF⟩;have ha:Hid (SetI K q n wb mb 0 (.slice none 0 0) (.slice none 0 0) w3):=Hd ⟨[],2,rfl,by omega,o3,m3,V3,⟨by rw[gM.out] at gc;exact gc,Yby,⟨by rw[gy,HWT.out],trivial⟩,⟨Zs1 _ _ _,fun k hk=>by cases hk⟩,⟨⟨[],rfl,Zs1 _ _ _,fun i v hv=>by simp at hv⟩,fun k hk=>by cases hk⟩⟩,by have:=hI.out;simp[two] at gF;omega⟩;have f2:=(gc.chg.below0.cell (p:=⟨w.heap.size,2,none⟩) (Zab c2)).trans c2;clear gc gy hn hE gF gT e0 e1;go_wp2_with fail
 go_loopw [8,9,40] (fun s8 s9 s40 wr=>∃ j:Nat,j<=q.es.length/\s40=.int .i64 j/\Hid (SetI K q n wb mb j s8 s9 wr)) (fun _ _ s40 _=>q.es.length-(intOf s40).toNat)
 case atStart=>exact⟨0,Nat.zero_le _,rfl,ha⟩
 case round =>
  clear ha f2
  rename World=>wy
  obtain⟨j,hj,rfl,HI⟩:=hrel;obtain⟨hs,nx,gk,hnx,hz⟩:=HI.out;obtain⟨o0,m0,V0,gm,gG⟩:=hz;have gw:Hid (∃ o m V,LawT K n (OrdP q.order) (Zck n) wb mb (two++hs) nx (fun ws c=>ws=[]/\True) hs hs wy o m V u8 u9/\m.d.pool.many<=2*2^n+j*(39*2^n+1)):=Hd ⟨o0,m0,V0,gm,gG⟩;have gI:=gm.below0;have hq:=Hd gI;have gK:=Hd gk;have hC:hs.length=j:=by have:=congrArg List.length gk;simpa [Nat.min_eq_left hj] using this
  clear HI gk gm gG gI o0 m0 V0
  by_cases gH:j<q.es.length
  ·have hA:(j:Int)<q.es.length:=by omega
   have gv:=hq.out;obtain⟨b,off,x0,x1,x2,ea,k0,k1,k2,hx⟩:=gj.out.es.cells j gH;subst ea;obtain⟨zo,zv,za,zn,zc,rfl,rfl,rfl⟩:=hx.parts;have gi:=Hd (gL.out.expr _ (List.getElem_mem gH));have ga:=gi.out.1;have gz:=ExT.size_pos q.es[j];obtain⟨e,he⟩:∃ e,e=q.es[j]:=⟨_,rfl⟩;rw[<- he] at hx gi ga gz;have HX:=Hd hx;have q0:=(gv.cell (p:=⟨b,off+j*3,none⟩) (Zab k0)).trans k0;have q1:=(gv.cell (p:=⟨b,off+j*3+1,none⟩) (Zab k1)).trans k1;have q2:=(gv.cell (p:=⟨b,off+j*3+2,none⟩) (Zab k2)).trans k2;have hH:Hid ((q.es.take (j+1)).map fnT=(q.es.take j).map fnT++[fnT e]):=Hd (by rw[List.take_succ_eq_append_getElem gH,List.map_append,he];rfl);obtain⟨wz,gp⟩:∃ wz,wz=wy.alloc (.cells #[.int .i64 zo,.int .i64 zv,.slice za zn zc] 79):=⟨_,rfl⟩;have hF:Hid (_=wz):=Hd gp.symm;have h5:Below wy.heap.size wy wz:=by rw[gp];exact Zae _ _
   have g0:wz.heap[wy.heap.size]?=some (.cells #[.int .i64 zo,.int .i64 zv,.slice za zn zc] 79 (0,0)):=by rw[gp];exact heap_alloc_new _ _
   have p0:wz.cell? ⟨wy.heap.size,0,none⟩=some (.int .i64 zo):=by rw[cell_of_row _ _ 0 _ _ _ g0];rfl
   have p1:wz.cell? ⟨wy.heap.size,1,none⟩=some (.int .i64 zv):=by rw[cell_of_row _ _ 1 _ _ _ g0];rfl
   have p2:wz.cell? ⟨wy.heap.size,2,none⟩=some (.slice za zn zc):=by rw[cell_of_row _ _ 2 _ _ _ g0];rfl
   obtain⟨o4,m4,V4,lt0,mn4⟩:=gw.out;have lt4:=lt0.below h5;have n4:o4 wy.heap.size=none:=lt0.sat.lt.none (Nat.le_refl _);have h3:∀ g,u8.ownBlock=some g->g<wy.heap.size:=fun g hg=>(lt0.l.own.lt g hg).2
   have hN:(two++hs).length=2+j:=by simp[two,hC];omega
   have gx:=Hd (Zoy hK e _ (two++hs) nx wz o4 m4 V4 _ lt4.sat ⟨lt4.st.1,mn4⟩ lt4.b2 gi.out.2.1.valid (by have:=gi.out.2.2;rw[gP.out] at this;exact this) hx (by omega) (Zu1 hy ga (by omega)));have g8:=Hd lt4;clear gv k0 k1 k2 hx h5 g0 gp lt4 gw he lt0;go_upto_region 9 with fail;rw[hF.out];clear q0 q1 q2;go_wp2_with fail;refine gx.out.mono ?_;rintro y w5 ⟨k,rfl,hk,o5,m5,V5,g9,⟨gY,gE⟩,gA⟩;have ho:Hid (m5.d.pool.many<=2*2^n+(j+1)*(39*2^n+1)):=Hd (Zu2 ga gz gE);have gn:Hid (LawT K n (OrdP q.order) (Zck n) wb mb (two++(hs++[(k,fnT e)])) (k+1) (fun ws c=>ws=[]/\True) hs hs w5 o5 m5 V5 u8 u9):=Hd (g8.out.go (by rw[<- List.append_assoc];exact gA) (Yby.app _) ⟨gY,trivial⟩ g9);have r0:=g9.cell (p:=⟨wy.heap.size,0,none⟩) p0 n4 (fun e=>e);have r1:=g9.cell (p:=⟨wy.heap.size,1,none⟩) p1 n4 (fun e=>e);have r2:=g9.cell (p:=⟨wy.heap.size,2,none⟩) p2 n4 (fun e=>e);have n5:=g9.none' (Zab p0) n4;have hh:wb.heap.size<=w5.heap.size:=gA.chg.size;clear g9 gY gA gE gx p0 p1 p2 g8;go_upto_region 13 with (at_builtin;refine Zcr Znl _ rfl _ _ rfl wb.heap.size _ (Za0 (hs.map Prod.fst)) _ rfl rfl rfl rfl rfl (by exact gn.out.l.own) (by simp[Za0];omega) hh ?_;intro v6 w6 gt g1 g2 g3 g4 gJ)
   have gX:=Zq2 g1 g2 g3 g4 gJ;have ge:w6.heap[wy.heap.size]?=w5.heap[wy.heap.size]?:=gX.keep _ (Zab r0) (fun e=>by have:=h3 _ e;omega);have t0:=(World.cell?_of_block (w:=w5) (a:=⟨wy.heap.size,0,none⟩) ge).trans r0;have t1:=(World.cell?_of_block (w:=w5) (a:=⟨wy.heap.size,1,none⟩) ge).trans r1;have t2:=(World.cell?_of_block (w:=w5) (a:=⟨wy.heap.size,2,none⟩) ge).trans r2;have g6:=Hd (gn.out.appL gt g1 g2 g3 g4 gJ (p:=(k,fnT e)));have a0:=(g6.out.below0.cell (p:=⟨w.heap.size,0,none⟩) (Zab c0)).trans c0;have h7:=Hd (Zlw e _ n (by omega) w6 (by omega) gi.out.2.1 (HX.out.below g6.out.below0));clear gX ge gt g1 g2 g3 g4 gJ r0 r1 r2 gn h3;go_wp2_with fail;refine h7.out.mono ?_;rintro y w7 ⟨v7,rfl,gd,h6⟩;obtain⟨av,cv,rfl,_⟩:=gd.slice;have h9:Hid (LawB w7 o5 wb.heap.size (.slice av (Zbu (tabB n (fnT e))).length cv) (tabB n (fnT e))):=Hd (Zzy (n:=n) gd (by rw[Zhx];exact Zyx (by omega)) g6.out.sat.lt g6.out.sat.chg.size);have gf:=Hd (g6.out.below h6);obtain⟨rs,hm,gC,gB⟩:=gf.out.x.ex;have gO:=Hd gC;have h8:=Hd gB;have ht:rs.length=hs.length:=by rw[hm];simp
   have hf:wb.heap.size<=w7.heap.size:=gf.out.sat.chg.size;clear gd h6 gC gB h7 g6 t0 t1 t2 a0;go_upto_region 14 with (at_builtin;refine Zcr Yck _ rfl _ _ rfl wb.heap.size _ rs _ rfl rfl rfl rfl rfl (by exact gO.out) (by omega) hf ?_;intro v8 w8 gr g1 g2 g3 g4 h4)
   have gS:=Hd (gf.out.appX h9.out rfl ht gO.out h8.out gr g1 g2 g3 g4 h4 (p:=(k,fnT e)));have hJ:Hid (SetI K q n wb mb (j+1) v6 v8 w8):=Hd ⟨hs++[(k,fnT e)],k+1,by rw[List.map_append,gK.out,hH.out];rfl,by omega,o5,m5,V5,gS.out,ho.out⟩;clear gr g1 g2 g3 g4 h4 gO h8 gf h9 gS;go_wp2_with fail;go_roundw
   case rel=>exact⟨j+1,by omega,by go_num,hJ⟩
   case measure=>simp[intOf];omega
  ·have hB:j=q.es.length:=by omega
   have hA:¬ (j:Int)<q.es.length:=by omega
   obtain⟨o4,m4,V4,lt4,mn4⟩:=gw.out;have hp:=Hd mn4;clear mn4;have e3:=(lt4.below0.cell (p:=⟨w.heap.size,3,none⟩) (Zab c3)).trans c3;have gq:m4.waits=[]:=lt4.st.1;have gu:Zes n m4.waits.length q.plan=0:=by
    rw[gq];have:=gL.out.planOk;rw[gP.out] at this;exact this
   have gQ:=Hd (Zrs lt4.sat (c:=cp) (gj.out.plan.below lt4.below0) (fun h0 x hx=>by
    obtain⟨b,off,e,hc,_⟩:=gj.out.plan.cells 0 h0;rw[hx] at e;cases e;exact lt4.sat.none0 (Zab hc)) (by rw[gq];simp))
   rw[gu] at gQ;have g8:=Hd lt4;have hG:=Hd gq;clear lt4 gq gu gw;go_wp2_with fail;refine gQ.out.mono ?_;rintro y w5 ⟨rfl,o5,m5,gh⟩
   have HF:Hid (Q (.returned (.tuple #[.pointer (some ⟨mb,0,none⟩),u8,u9,.bool true])) w5):=Hd (by
    rw[HQ.out];refine⟨mb,u8,u9,wb,hs,nx,rfl,hb.out,by rw[gK.out,hB,List.take_length],by omega,o5,m5,V4,g8.out.go gh.sat g8.out.b2 ?_ (ChgX.of_chg gh.chg NoB),?_⟩
    rotate_left
    . rw[gh.d];exact Yai (by omega) hp.out
    have:=gh.yes rfl;rw[hG.out] at this;exact⟨by simpa using this.1,by simpa using this.2⟩)
   clear gh gQ;go_wp2_with fail;refine bodyPost_ret (Zgl rfl _ _ _) rfl ?_;exact HF.out
open Go.RowKit
end Go.Proofs.YtkidaindpahefaaGreat

namespace Go.Proofs.YtkidaindpahefaaGreat
open Go.Proofs.Tryz
open Go.RowKit
def cofF (F:BF)(v:Nat)(b:Bool):BF:=fun ρ=>F fun u=>if u=v then b else ρ u
open Go.RowKit
def Zdl (n:Nat)(F:BF)(v:Nat):Bool := !decide (tabB n (cofF F v false)=tabB n (cofF F v true))
def topR (n:Nat)(F:BF):List Nat->Int
 | []=>-1
 | v::l=>if Zdl n F v then (v:Nat) else topR n F l
open Go.RowKit
theorem Zqx {n:Nat}{F:BF}:∀ {l:List Nat},(∀ v∈l,Zdl n F v=false)->topR n F l = -1
 | [],_=>rfl
 | v::l,h=>by
   show (if Zdl n F v then ((v:Nat):Int) else topR n F l) = -1
   rw[h v (List.mem_cons_self ..)];exact Zqx fun u hu=>h u (List.mem_cons_of_mem _ hu)
theorem Zr9 {n:Nat}{F:BF}:∀ (l:List Nat) (k:Nat),k<l.length->Zdl n F (l.getD k 0)=true->(∀ j,j<k->Zdl n F (l.getD j 0)=false)->topR n F l=(l.getD k 0:Nat)
 | [],k,hk,_,_=>by simp at hk
 | v::l,0,_,h,_=>by
   show (if Zdl n F v then ((v:Nat):Int) else topR n F l)=(v:Nat)
   have h':Zdl n F v=true:=h;rw[h',if_pos rfl]
 | v::l,k+1,hk,h,hj=>by
   show (if Zdl n F v then ((v:Nat):Int) else topR n F l)=_
   have h0:Zdl n F v=false:=hj 0 (by omega);rw[h0];have:=Zr9 l k (by simpa using hk) (by simpa using h) (fun j hjk=>by simpa using hj (j+1) (by omega));simpa using this
section
variable {d:Zad}{V:Nat->BF}
theorem Zak.dep (h:Zak d V){f:Nat}(hf:okE (Zaa d) f):DepF d.vars.length (ef V f):=fun ρ ρ' hr=>h.dag.indep _ f (Nat.le_refl _) hf ρ ρ' fun v hv _=>hr v hv
theorem Zfm {n:Nat}{F:BF}(h:DepF n F)(v:Nat)(b:Bool):DepF n (cofF F v b):=fun ρ ρ' hr=>h _ _ fun u hu=>by
 show (if u=v then b else ρ u)=if u=v then b else ρ' u
 rw[hr u hu]
theorem Zjw (F:BF)(v:Nat)(b:Bool)(ρ:Nat->Bool):cofF F v b ρ=F (upd ρ v b):=rfl
theorem Zge {n:Nat}{F:BF}(h:DepF n F)(v:Nat):Zdl n F v=true↔cofF F v false≠cofF F v true:=by
 unfold Zdl;rw[Bool.not_eq_true',decide_eq_false_iff_not];exact⟨fun h1 e=>h1 (by rw[e]),fun h1 e=>h1 (Zyw (Zfm h v _) (Zfm h v _) e)⟩
theorem Zzp (h:Zak d V){f v:Nat}(hf:okE (Zaa d) f)(hl:levN d v<lvE d.vars.length (levN d) (Zaa d) f):Zdl d.vars.length (ef V f) v=false:=by
 rw[<- Bool.not_eq_true,Zge (h.dep hf)];intro g0;refine g0 ?_;funext ρ;rw[Zjw,Zjw,h.dag.indep_var hf hl,h.dag.indep_var hf hl]
theorem Zsi (V:Nat->BF)(f:Nat)(ρ:Nat->Bool):ef V f ρ=(if f%2=0 then V (f/2) ρ else !V (f/2) ρ):=by
 unfold ef;split<;>simp_all
theorem Ztj (h:Zak d V){f:Nat}{b:BN}(hb:Zaa d (f/2)=some b):topR d.vars.length (ef V f) d.vars=(b.v:Nat)/\b.v<d.vars.length:=by
 have hf:okE (Zaa d) f:=.inr ⟨b,hb⟩;have g1:=h.dag.var _ _ hb;have g2:=h.dag.lt _ g1;have g3:lvE d.vars.length (levN d) (Zaa d) f=levN d b.v:=by unfold lvE;rw[hb]
 refine⟨?_,g1⟩;have g0:=h.inv b.v g1;rw[Zr9 d.vars (levN d b.v) g2 ?_ ?_,g0]
 ·rw[g0,Zge (h.dep hf)];intro he;have hc:ef V b.hi=ef V b.lo:=by
   funext ρ;have h1:=h.dag.cofs hb ρ;have h2:ef V f (upd ρ b.v false)=ef V f (upd ρ b.v true):=congrFun he ρ;rw[Zsi,Zsi,h1.1,h1.2] at h2;split at h2
   . exact h2.symm
   . have:=congrArg not h2;simpa using this.symm
  have:=h.dag.canon (h.dag.okHi _ _ hb) (h.dag.okLo _ _ hb) hc;exact h.dag.ne _ _ hb this.symm
 . intro j hj;have h1:=h.vlt j (by omega);exact Zzp h hf (by rw[g3,h1.2];exact hj)
end
open Go.RowKit
end Go.Proofs.YtkidaindpahefaaGreat

namespace Go.Proofs.YtkidaindpahefaaGreat
open Go.Proofs.Tryz
open Go.RowKit
open Go.RowKit
open Go.RowKit
theorem Ycl (V:Nat->BF)(e:Nat):ef V (enot e)=notF (ef V e):=funext fun ρ=>Zhr V e ρ
section
variable {K:Law}{n:Nat}
theorem Znj {o:Own}{w:World}{mb:Nat}{m:ManD}{V:Nat->BF}(h:Zd6 (K m.d V) o w mb m){e:Nat}(he:okE (Zaa m.d) e):e<eMax:=by
 obtain⟨s,hs⟩:=h;obtain⟨s2,h2⟩:=hs.store;have:=h2.edge_lt he;unfold eMax;omega
end
open Go.RowKit
open Go.RowKit
section
variable {K:Law}{n k:Nat}{room:Nat}{w0 w w1:World}{mb:Nat}{fs:List (Int×BF)}{nx:Int}{o:Own}{m:ManD}{V:Nat->BF}
def NewF (K:Law)(n room:Nat)(w0:World)(mb:Nat)(fs:List (Int×BF))(nx:Int)(ws0:List Ev)(F:BF)(o:Own)(w:World)(x:Ending)(w':World):Prop :=
 x=.returned (.tuple #[.int .i64 nx,.int .i64 0])/\∃ o' m' V',ChgX NoB o o' w w'/\m'.waits <:+ ws0/\SatE K n (fun _=>True) room w0 mb (fs++[(nx,F)]) (nx+1) w' o' m' V'
end
open Go.RowKit
def Ydn (e0:Nat):BF:=fun _=>decide (e0=0)
theorem Zwi {d:Zad}{V:Nat->BF}(hk:Zak d V){e0:Nat}(h:e0/2=0):ef V e0=Ydn e0:=by
 rcases(show e0=0\/e0=1 by omega) with rfl|rfl
 . rw[hk.dag.ef0];rfl
 . rw[hk.dag.ef1];rfl
open Go.RowKit
open Go.RowKit
def FxS (K:Law)(n room:Nat)(w0:World)(mb:Nat)(ws0:List Ev)(C:Nat->Prop)(o0:Own)(wb:World)(B:World->Own->Prop)(fs:List (Int×BF))(nx:Int)(W:World):Prop :=
 ∃ o m V,ChgX C o0 o wb W/\m.waits <:+ ws0/\SatE K n (fun _=>True) room w0 mb fs nx W o m V/\B W o
def Zbo (B:World->Own->Prop):Prop:=∀ W o W' o',B W o->ChgX NoB o o' W W'->B W' o'
theorem NoB.sub {C:Nat->Prop}{s:Nat}:∀ k,k<s->NoB k->C k:=fun _ _ e=>e.elim
section
variable {K:Law}{n room:Nat}{w0 w W w' wb:World}{mb:Nat}{fs r:List (Int×BF)}{nx:Int}{o0:Own}{ws0:List Ev}{C:Nat->Prop}{B:World->Own->Prop}{k l:Int}{F G:BF}
theorem FxS.new {f:Nat}{args:Array Value}(hB:Zbo B)(h:FxS K n room w0 mb ws0 C o0 wb B fs nx W)(hc:∀ o m V,m.waits <:+ ws0->SatE K n (fun _=>True) room w0 mb fs nx W o m V->Calls prog f args W (NewF K n room w0 mb fs nx ws0 F o W)) :
 Calls prog f args W fun x w'=>x=.returned (.tuple #[.int .i64 nx,.int .i64 0])/\FxS K n room w0 mb ws0 C o0 wb B (fs++[(nx,F)]) (nx+1) w':=by
 obtain⟨o,m,V,h1,h2,h3,h4⟩:=h;refine(hc o m V h2 h3).mono ?_;rintro x w' ⟨q1,o',m',V',q2,q3,q4⟩;exact⟨q1,o',m',V',h1.trans q2 NoB.sub,q3,q4,hB _ _ _ _ h4 q2⟩
end
open Go.RowKit
open Go.RowKit
open Go.RowKit
theorem Ycm (w:World)(g:Fn)(fs cs:Array Value):(binOp .eql 200 (.func g fs cs) .nilFunc).run prog w=.ok (.bool false) w:=by
 have hd:Op.maxDepth=9999+1:=rfl;have h:(Op.equal 200 (.func g fs cs) .nilFunc).run prog w=.ok false w:=by
  unfold Op.equal;rw[hd];unfold Op.equalIn;simp only[Sem.run_bind,run_underlying underlying200,Result.andThen_ok];simp
 simp only[binOp];simp[h]
section
variable {K:Law}{n:Nat}{Od:List Nat->Prop}{room:Nat}{w0:World}{mb:Nat}{fs:List (Int×BF)}{nx:Int}{C:Nat->Prop}{B:World->Prop}{St:ManD->Prop}{gop:Nat}{lop:Array Value}{QO:Nat->Own->World->ManD->(Nat->BF)->Prop}{QP:Own->World->ManD->(Nat->BF)->Prop}{Q:World->ManD->(Nat->BF)->Prop}{E:Int->ManD->ManD->Prop}
def OpLN (K:Law)(n:Nat)(Od:List Nat->Prop)(room:Nat)(w0:World)(mb:Nat)(fs:List (Int×BF))(nx:Int)(C:Nat->Prop)(B:World->Prop)(St:ManD->Prop)(gop:Nat)(lop:Array Value)(Q:Nat->Own->World->ManD->(Nat->BF)->Prop)(E:Int->ManD->ManD->Prop):Prop :=
 ∀ (o:Own) (W:World) (m:ManD) (V:Nat->BF) (xb:Nat),SatE K n Od room w0 mb fs nx W o m V->B W->(∀ k,C k->k<W.heap.size/\o k=none)->St m->Zf3 o W xb mb->¬ C xb ->
  Calls prog gop (#[.pointer (some ⟨xb,0,none⟩)]++lop) W fun e w'=>∃ (o':Own) (m':ManD) (V':Nat->BF),Zkd C K o W mb m V o' w' m' V'/\B w' /\
   ((e=.returned (.tuple #[])/\Q W.heap.size o' w' m' V') \/
    (∃ er:Int,e=Zdr er false ev0/\er≠0/\m'.waits=m.waits/\St m'/\E er m m') \/
    (∃ ev,e=Zdr 0 true ev/\m.waits=ev::m'.waits/\StE K n Od room w0 mb fs nx St m'/\HapG K n Od room w0 mb fs nx ev))
def Zlp (W:World)(b:Nat):Prop:=∀ k d,W.cell? ⟨b,k,none⟩≠some (.int .u32 d)
structure Ztq (K:Law)(n:Nat)(Od:List Nat->Prop)(room:Nat)(w0:World)(mb:Nat)(fs:List (Int×BF))(nx:Int)(C:Nat->Prop)(B:World->Prop)(St:ManD->Prop)(o0:Own)(w:World)(k:Nat)(full:Bool)(W:World)(o:Own)(m:ManD)(V:Nat->BF):Prop where
 sat:SatE K n Od room w0 mb fs nx W o m V
 bok:B W
 st:St m
 len:m.waits.length=k
 cok:∀ c,C c->c<w.heap.size/\o c=none
 chg:ChgX C o0 o w W
 clean:full=true->m.d.dead=0
def Ybf (K:Law)(n:Nat)(Od:List Nat->Prop)(room:Nat)(w0:World)(mb:Nat)(fs:List (Int×BF))(nx:Int)(C:Nat->Prop)(B:World->Prop)(Q:Own->World->ManD->(Nat->BF)->Prop)(E:Int->ManD->ManD->Prop)(o0:Own)(w:World)(er:Int)(W:World):Prop :=
 ∃ o m V,SatE K n Od room w0 mb fs nx W o m V/\B W/\ChgX C o0 o w W/\((er=0/\Q o W m V)\/(er≠0/\∃ m0:ManD,E er m0 m/\(er=7->m0.d.dead=0)))
theorem Zxh (hB:∀ W W',B W->(∀ c,C c->W'.heap[c]?=W.heap[c]?)->B W')(hQ:∀ s o W W' m V,(∀ c,C c->c<s)->s+3<=W.heap.size->Zlp W s/\Zlp W (s+1)->QO (s+3) o W m V->Ali s W W'->QP o W' m V)(hSt:∀ (m:ManD) (d:Zad),St m->Za7 m.d d->St { m with d:=d })(hC0:∀ c,C c->w0.heap.size<=c)(eg:∀ args w,(callFunc gop args).run prog w=.ok (.enter gop args) w)
 (hop:OpLN K n Od room w0 mb fs nx C B St gop lop QO E) {o:Own} {w:World} {m:ManD} {V:Nat->BF} (h:SatE K n Od room w0 mb fs nx w o m V) (hb:B w) (hC:∀ c,C c->c<w.heap.size/\o c=none) (hst:St m) :
 Calls prog 196 #[.pointer (some ⟨mb,0,none⟩),.func (.func gop) #[] lop] w fun x w'=>∃ er,x=.returned (.int .i64 er)/\Ybf K n Od room w0 mb fs nx C B QP E o w er w':=by
 have hw0:=h.chg.size;have g7:∀ {k full W W' o1 m1 V1},Ztq K n Od room w0 mb fs nx C B St o w k full W o1 m1 V1->∀ {s:Nat},w.heap.size<=s->o1 s=none->o1 (s+1)=none->Ali s W W'->Ztq K n Od room w0 mb fs nx C B St o w k full W' o1 m1 V1:=by
  intro k full W W' o1 m1 V1 hi s hs n0 n1 a;have hk:∀ k,k<w.heap.size->W'.heap[k]?=W.heap[k]?:=fun k hk=>a.keep k (by have:=hi.chg.size;omega) (by omega)
  refine⟨hi.sat.other a (fun k _ e=>?_),hB _ _ hi.bok (fun c hc=>hk c (hi.cok c hc).1),hi.st,hi.len,hi.cok,hi.chg.trans (ChgX.of_wr (C:=fun k=>w.heap.size<=k) a o1 (fun k _ e=>by omega)) (fun k hk e=>by omega),hi.clean⟩;rcases e with rfl|rfl
  . exact⟨by omega,n0⟩
  . exact⟨by omega,n1⟩
 have gd:∀ {k full full' W W' o1 m1 V1 o2 m2 V2},Ztq K n Od room w0 mb fs nx C B St o w k full W o1 m1 V1->SatE K n Od room w0 mb fs nx W' o2 m2 V2->ChgX NoB o1 o2 W W'->m2.waits=m1.waits->St m2->(full'=true->m2.d.dead=0)->Ztq K n Od room w0 mb fs nx C B St o w k full' W' o2 m2 V2:=by
  intro k full full' W W' o1 m1 V1 o2 m2 V2 hi gn hc e1 e2 e3;have gp:=hi.chg.size;exact⟨gn,hB _ _ hi.bok (fun c g8=>hc.block c (by have:=(hi.cok c g8).1;omega) (hi.cok c g8).2 (fun e=>e)),e2,by rw[e1];exact hi.len,fun c g8=>⟨(hi.cok c g8).1,hc.none' (by have:=(hi.cok c g8).1;omega) (hi.cok c g8).2⟩,hi.chg.trans hc (fun _ _ e=>e.elim),e3⟩
 refine Zyg mb _ _ _ eg (fun k full W=>∃ o1 m1 V1,Ztq K n Od room w0 mb fs nx C B St o w k full W o1 m1 V1) _ ?_ m.waits.length ⟨o,m,V,h,hb,hst,rfl,hC,ChgX.of_below (Below.refl _ _) o C,by simp⟩;rintro k full W ⟨o1,m1,V1,hi⟩;have gp:=hi.chg.size;obtain⟨s,hs⟩:∃ s,s=W.heap.size:=⟨_,rfl⟩
 refine⟨fun st W1=>match st with
  | none=>∃ (o':Own) (m':ManD) (V':Nat->BF),SatE K n Od room w0 mb fs nx W1 o' m' V'/\B W1/\ChgX C o o' w W1/\s+3<=W1.heap.size/\(∀ q,w.heap.size<=q->q<s+3->o1 q=none->o' q=none)/\(Zlp W1 s/\Zlp W1 (s+1))/\QO (s+3) o' W1 m' V'
  | some (er,evt,ev)=>∃ (o':Own) (m':ManD) (V':Nat->BF),Ztq K n Od room w0 mb fs nx C B St o w m'.waits.length false W1 o' m' V'/\s+3<=W1.heap.size/\(∀ q,w.heap.size<=q->q<s+3->o1 q=none->o' q=none) /\
   ((evt=false/\er≠0/\m'.waits=m1.waits/\E er m1 m')\/(evt=true/\m1.waits=ev::m'.waits/\StE K n Od room w0 mb fs nx St m'/\HapG K n Od room w0 mb fs nx ev)),?_,?_,?_,?_,?_⟩
 ·unfold Zvo;have ge:Below W.heap.size W (tryW mb W):=((Zae _ _).alloc (by simp) _).alloc (by simp;omega) _;have gi:(tryW mb W).heap.size=W.heap.size+3:=by unfold tryW;simp
  obtain⟨T,hT⟩:∃ T,T=tryW mb W:=⟨_,rfl⟩;have h1:(tryW mb W).heap[W.heap.size+2]?=some (.cells #[.pointer (some ⟨mb,0,none⟩)] 233 (0,0)):=by
   have:=heap_alloc_new ((W.alloc (.cells #[.int .i64 0,.bool false,.int .i64 0,.int .i64 0,.int .i64 0] 235)).alloc (.cells #[.bool false] 4)) (.cells #[.pointer (some ⟨mb,0,none⟩)] 233);rw[World.size_alloc,World.size_alloc] at this;exact this
  have gk:Zlp (tryW mb W) W.heap.size:=fun k d hd=>by
   have e:(tryW mb W).heap[W.heap.size]?=some (.cells #[.int .i64 0,.bool false,.int .i64 0,.int .i64 0,.int .i64 0] 235 (0,0)) :=
    (Go.heap_alloc_old _ _ (by simp;omega)).trans ((Go.heap_alloc_old _ _ (by simp)).trans (heap_alloc_new _ _))
   rw[cell_of_row _ _ _ _ _ _ e] at hd;rcases(show k=0\/k=1\/k=2\/k=3\/k=4\/5<=k by omega) with rfl|rfl|rfl|rfl|rfl|hk
   . simp at hd
   . simp at hd
   . simp at hd
   . simp at hd
   . simp at hd
   . rw[Array.getElem?_eq_none (by simpa using hk)] at hd;cases hd
  have gj:Zlp (tryW mb W) (W.heap.size+1):=fun k d hd=>by
   have e0:=heap_alloc_new (W.alloc (.cells #[.int .i64 0,.bool false,.int .i64 0,.int .i64 0,.int .i64 0] 235)) (.cells #[.bool false] 4);rw[World.size_alloc] at e0;have e:(tryW mb W).heap[W.heap.size+1]?=some (.cells #[.bool false] 4 (0,0)) :=
    (Go.heap_alloc_old _ _ (by simp)).trans e0
   rw[cell_of_row _ _ _ _ _ _ e] at hd;rcases(show k=0\/1<=k by omega) with rfl|hk
   . simp at hd
   . rw[Array.getElem?_eq_none (by simpa using hk)] at hd;cases hd
  rw[<- hT] at ge gi h1 gk gj ⊢;clear hT;have g6:=hi.sat.below ge;have gt:Zf3 o1 T (W.heap.size+2) mb:=⟨cell1 h1,hi.sat.lt.none (by omega)⟩;have gm:∀ q,w.heap.size<=q->¬ C q:=fun q hq e=>by have:=(hi.cok q e).1;omega
  have ga:∀ {o':Own} {w1:World},ChgX C o1 o' T w1->∀ q,w.heap.size<=q->q<s+3->o1 q=none->w1.heap[q]?=T.heap[q]?:=fun hc q h1 h2 h3=>hc.block q (by omega) h3 (gm q h1)
  have n0:o1 W.heap.size=none:=hi.sat.lt.none (Nat.le_refl _);have n1:o1 (W.heap.size+1)=none:=hi.sat.lt.none (by omega);refine(hop o1 T m1 V1 (W.heap.size+2) g6 (hB _ _ hi.bok (fun c hc=>ge.block c (by have:=(hi.cok c hc).1;omega))) (fun c hc=>⟨by have:=(hi.cok c hc).1;omega,(hi.cok c hc).2⟩) hi.st gt (gm _ (by omega))).mono ?_;rintro e w1 ⟨o',m',V',st,b1,gh⟩;have gw:=st.chg.size;have gg:=(hi.chg.trans (ChgX.of_below ge o1 C) (fun _ _ e=>e)).trans st.chg (fun _ _ e=>e);refine⟨by omega,ga st.chg _ (by omega) (by omega) n0,ga st.chg _ (by omega) (by omega) n1,?_⟩;have g9:∀ q,w.heap.size<=q->q<s+3->o1 q=none->o' q=none:=fun q _ h2 h3=>st.chg.none' (by omega) h3
  have gf:∀ c,C c->c<w.heap.size/\o' c=none:=fun c hc=>⟨(hi.cok c hc).1,st.chg.none' (by have:=(hi.cok c hc).1;omega) (hi.cok c hc).2⟩
  rcases gh with ⟨rfl,q1⟩|⟨er,rfl,q1,q2,q3,q4⟩|⟨ev,rfl,q1,q2,q3⟩
  ·have hu:∀ {q:Nat},q<s+3->w.heap.size<=q->o1 q=none->Zlp T q->Zlp w1 q:=fun h2 h1 h3 hn k d hd=>hn k d (by
    have e:=ga st.chg _ h1 h2 h3;exact(World.cell?_of_block (w:=T) (a:=⟨_,k,none⟩) e).symm.trans hd)
   exact .inl ⟨rfl,o',m',V',g6.step st hC0,b1,gg,by omega,g9,⟨by rw[hs];exact hu (by omega) (by omega) n0 gk,by rw[hs];exact hu (by omega) (by omega) n1 gj⟩,by rw[hs,<- gi];exact q1⟩
  . exact .inr ⟨er,false,ev0,rfl,o',m',V',⟨g6.step st hC0,b1,q3,rfl,gf,gg,by simp⟩,by omega,g9,.inl ⟨rfl,q1,q2,q4⟩⟩
  . exact .inr ⟨0,true,ev,rfl,o',m',V',⟨g6.step st hC0,b1,q2 _ _ _ _ (g6.step st hC0) rfl rfl (.inl (Nat.le_refl _)),rfl,gf,gg,by simp⟩,by omega,g9,.inr ⟨rfl,q1,q2,q3⟩⟩
 ·rintro W1 W2 ⟨o',m',V',a1,a2,a3,a4,a5,au,a8⟩ al;rw[<- hs] at al;have n0:o' s=none:=a5 s (by omega) (by omega) (by rw[hs];exact hi.sat.lt.none (Nat.le_refl _));have n1:o' (s+1)=none:=a5 (s+1) (by omega) (by omega) (by rw[hs];exact hi.sat.lt.none (by omega));have hk:∀ c,C c->W2.heap[c]?=W1.heap[c]?:=fun c hc=>al.keep c (by have:=(hi.cok c hc).1;omega) (by have:=(hi.cok c hc).1;omega)
  refine⟨o',m',V',a1.other al (fun k _ e=>?_),hB _ _ a2 hk,a3.trans (ChgX.of_wr (C:=fun k=>w.heap.size<=k) al o' (fun k _ e=>by omega)) (fun k hk e=>by omega),.inl ⟨rfl,hQ s _ _ _ _ _ (fun c hc=>by have:=(hi.cok c hc).1;omega) a4 au a8 al⟩⟩;rcases e with rfl|rfl
  . exact⟨by omega,n0⟩
  . exact⟨by omega,n1⟩
 ·rintro er ev W1 W2 ⟨o',m',V',gc,a4,a5,(⟨h1,_⟩|⟨_,gr,go,gu⟩)⟩ al
  . cases h1
  rw[<- hs] at al;have n0:o' s=none:=a5 s (by omega) (by omega) (by rw[hs];exact hi.sat.lt.none (Nat.le_refl _));have n1:o' (s+1)=none:=a5 (s+1) (by omega) (by omega) (by rw[hs];exact hi.sat.lt.none (by omega));have g0:=g7 gc (by omega) n0 n1 al;refine(gu o' W2 m' V' g0.sat).mono ?_;rintro x w' ⟨rfl,o2,m2,V2,g1,g2,g3,g5,g4⟩;exact⟨rfl,m'.waits.length,by rw[<- hi.len,gr];simp,o2,m2,V2,gd g0 g1 g4 g2 (go _ _ _ _ g1 g2 g3 g5) (by simp)⟩
 ·rintro ev W1 W2 ⟨o',m',V',gc,a4,a5,(⟨_,_,hw,_⟩|⟨h1,_⟩)⟩ al gv
  . rw[<- hs] at al;have n0:o' s=none:=a5 s (by omega) (by omega) (by rw[hs];exact hi.sat.lt.none (Nat.le_refl _));have n1:o' (s+1)=none:=a5 (s+1) (by omega) (by omega) (by rw[hs];exact hi.sat.lt.none (by omega));have g0:=g7 gc (by omega) n0 n1 al;refine(Zhf g0.sat).mono ?_;rintro x w' ⟨rfl,o2,d2,g1,g2,g3⟩;have gl:=gd (full':=true) g0 g1 (ChgX.of_chg g3 NoB) rfl (hSt _ _ g0.st g2) (fun _=>g2.dead);rw[hw,hi.len] at gl;exact⟨⟨_,rfl⟩,o2,_,V',gl⟩
  . cases h1
 ·rintro er ev W1 W2 ⟨o',m',V',gc,a4,a5,(⟨_,h0,hw,hE⟩|⟨h1,_⟩)⟩ al gq
  ·rw[<- hs] at al;have n0:o' s=none:=a5 s (by omega) (by omega) (by rw[hs];exact hi.sat.lt.none (Nat.le_refl _));have n1:o' (s+1)=none:=a5 (s+1) (by omega) (by omega) (by rw[hs];exact hi.sat.lt.none (by omega));have g0:=g7 gc (by omega) n0 n1 al;refine⟨o',m',V',g0.sat,g0.bok,g0.chg,.inr ⟨h0,m1,hE,fun e7=>hi.clean ?_⟩⟩;cases full with
   | true=>rfl
   | false=>exact(gq ⟨e7,rfl⟩).elim
  . cases h1
theorem Zxg (hB:∀ W W',B W->(∀ c,C c->W'.heap[c]?=W.heap[c]?)->B W')(hQ:∀ s o W W' m V,(∀ c,C c->c<s)->s+3<=W.heap.size->Zlp W s/\Zlp W (s+1)->QO (s+3) o W m V->Ali s W W'->QP o W' m V)(hSt:∀ (m:ManD) (d:Zad),St m->Za7 m.d d->St { m with d:=d })(hC0:∀ c,C c->w0.heap.size<=c)(eg:∀ args w,(callFunc gop args).run prog w=.ok (.enter gop args) w)
 (hop:OpLN K n Od room w0 mb fs nx C B St gop lop QO E) {o:Own} {w:World} {m:ManD} {V:Nat->BF} (h:SatE K n Od room w0 mb fs nx w o m V) (hb:B w) (hC:∀ c,C c->c<w.heap.size/\o c=none) (hst:St m) :
 Calls prog 164 #[.pointer (some ⟨mb,0,none⟩),.func (.func gop) #[] lop] w fun x w'=>∃ er,x=.returned (.int .i64 er)/\Ybf K n Od room w0 mb fs nx C B QP E o w er w':=by
 have g0:=Hd (Zxh hB hQ hSt hC0 eg hop h hb hC hst);have g1:=Ycm w (.func gop) #[] lop;clear h hb hB hQ hSt hC0 hop hC hst
 go_enter func164,ntmps164
 go_wp2_with fail;refine g0.out.mono ?_;rintro x w1 ⟨er,rfl,hf⟩;have HF:=Hd hf;clear hf g0;go_wp2_with fail;go_ret;exact⟨er,rfl,HF.out⟩
end
open Go.RowKit
end Go.Proofs.YtkidaindpahefaaGreat
