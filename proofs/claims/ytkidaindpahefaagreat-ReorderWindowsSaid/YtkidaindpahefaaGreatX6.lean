/- Several texts in one file: contracts of the program's functions and what follows from them. -/
import Derived.Test.YtkidaindpahefaaGreatX5
import Derived.Deep.CutBlock
import Derived.Defers
set_option linter.unusedSimpArgs false
set_option linter.unusedVariables false
set_option linter.unusedSectionVars false
set_option linter.unnecessarySimpa false
set_option maxRecDepth 100000
set_option maxHeartbeats 8000000
namespace Go.Proofs.YtkidaindpahefaaGreat
open Go.Proofs.Tryz
open Go.RowKit
variable {B:Wd->Own->Prop}{C:Nat->Prop}{F G H:BF}{K:Law}{N:Nat->Option BN}{Od P':List Nat->Prop}{P:Program}{Q:Exit->Act->Wd->Prop}{R:Role->Prop}{S:Wd->Prop}{T:TypeId}{V V':Nat->BF}{W W' w w' w'' w0 w1 wb:Wd}{a:Act}{args:Array Value}{b base c e f i j k mb n nk off room sb x:Nat}{bs:List Bool}{d d':Ae}{fs fs' hs r:List (Int×BF)}{kf kg kh nx nx' op:Int}{ks zs:List Int}{last:Bool}{lim:Option Nat}{m m':ManD}{o' o0:Own}{ops:Array Oper}{rest:List Oper}{rs:List Value}{u v v' vl vx z:Value}{ws ws0:List Ev}
abbrev KF:Law:=fun _ _ _ _ _ _ _=>False
section
variable {o:Own}
theorem SatE.full (h:SatE KF n Od room w0 mb fs nx w o m V):SatE K n Od room w0 mb fs nx w o m V:=by
 obtain⟨s,hs⟩:=h.is;exact⟨⟨s,hs.mono fun _ _ _ _ _ e=>e.elim⟩,h.lt,h.ok,h.vars,h.od,h.room,h.next,h.hs,h.chg⟩
theorem SatE.cleared {s:ManW}(h:SatE K n Od room w0 mb fs nx w o m V)(g1:A8 (fun _ _ _ _ _=>False) o w1 mb m s)(g2:Chg (· = .entries) o o w w1)(g3:Ac o w1):SatE KF n Od room w0 mb fs nx w1 o m V :=
 ⟨⟨s,g1⟩,g3,h.ok,h.vars,h.od,h.room,h.next,h.hs,h.chg.lower (ChgX.of_chg g2.any NoB) (fun _ e=>e.elim)⟩
structure HapS (n room:Nat)(w0:Wd)(mb:Nat)(fs:List (Int×BF))(nx:Int)(o:Own)(w:Wd)(m:ManD)(o':Own)(w':Wd)(m':ManD)(V':Nat->BF):Prop where
 sat:SatE KF n (fun _=>True) room w0 mb fs nx w' o' m' V'
 waits:m'.waits=m.waits
 calls:m'.calls=m.calls
 chg:Chg (fun _=>True) o o' w w'
 many:m'.d.pool.many<=m.d.pool.many\/m'.d.pool.many<=fs.length*2^n
theorem HapS.trans {o'':Own}{w'':Wd}{m'':ManD}{V'':Nat->BF}(h:HapS n room w0 mb fs nx o w m o' w' m' V')(h':HapS n room w0 mb fs nx o' w' m' o'' w'' m'' V''):HapS n room w0 mb fs nx o w m o'' w'' m'' V'' :=
 ⟨h'.sat,h'.waits.trans h.waits,h'.calls.trans h.calls,h.chg.trans h'.chg,by
  rcases h'.many with h1|h1
  . exact h.many.imp (fun h2=>Vy h1 h2) (fun h2=>Vy h1 h2)
  . exact .inr h1⟩
theorem LW {s:ManW}(h:SatE KF n (fun _=>True) room w0 mb fs nx w o m V)(hs:A8 (fun _ _ _ _ _=>False) o w mb m s)(hn:nx<=549755813888)(z:Int) :
 Cl 160 #[Pt s.sb,Iv z] w fun e w'=>∃ q:Int,e=.returned (Iv q)/\∃ o' m' V',HapS n room w0 mb fs nx o w m o' w' m' V':=by
 by_cases hz:z<0\/(n:Int)-1<=z
 . refine(RW hs.store h.ok.store.small z (by rw[h.vars];exact hz)).mono ?_;rintro e w' ⟨rfl,rfl⟩;exact⟨2,rfl,o,m,V,h,rfl,rfl,Chg.refl _ _ _,.inl (Vu _)⟩
 ·obtain⟨k,rfl⟩:∃ k:Nat,z=k:=⟨z.toNat,by omega⟩;refine(LM h hs (Chg.refl _ _ _) h.lt (by omega) hn).mono ?_;rintro e w' ⟨o',m',V',hm⟩;obtain⟨d0,cr,hw⟩:=hm.way;rcases hw with ⟨e1,e2,_⟩|⟨e1,so⟩
  . exact⟨7,e1,o',m',V',hm.sat,hm.waits,hm.calls,hm.chg,.inr (hm.sat.few (by rw[e2];exact cr.dead))⟩
  . exact⟨0,e1,o',m',V',hm.sat,hm.waits,hm.calls,hm.chg,.inr (hm.sat.few so.dead)⟩
theorem Su {s:ManW}(h:SatE KF n (fun _=>True) room w0 mb fs nx w o m V)(hs:A8 (fun _ _ _ _ _=>False) o w mb m s) :
 Cl 215 #[Pt s.sb] w fun e w'=>∃ q:Int,e=.returned (Iv q)/\∃ o' m' V',HapS n room w0 mb fs nx o w m o' w' m' V':=by
 refine(IA hs.store h.lt h.ok.store).mono ?_;rintro e w' ⟨rfl,o',d',st,lt,cr,ch⟩;have g0:SatE KF n (fun _=>True) room w0 mb fs nx w' o' { m with d:=d' } V:=⟨⟨s,hs.setStore h.lt st ch⟩,lt,⟨cr.ok h.ok.store,Ir h.ok.handles h.ok.store cr⟩,by dsimp only;rw[cr.vars];exact h.vars,trivial,by dsimp only;rw[cr.room];exact h.room,h.next,h.hs,h.chg.lower (ChgX.of_chg ch.any NoB) (fun _ e=>e.elim)⟩;exact⟨_,rfl,o',{ m with d:=d' },V,g0,rfl,rfl,ch.any,.inr (g0.few cr.dead)⟩
theorem Sv (h:OwnI w base v zs):zs.length<=9223372036854775807:=by
 rcases h.2 with ⟨_,h0⟩|⟨g,cap,cur,_,_,_,h1,h2,_⟩
 . omega
 . unfold maxLen at h2;omega
theorem Ar.chg {a:Option Addr}(h:Ar w a zs)(hc:Chg R o o' w w')(hn:∀ x,a=some x->o x.block=none):Ar w' a zs :=
 ⟨h.len,fun k hk=>by
  obtain⟨b,off,rfl,hc1⟩:=h.cells k hk;exact⟨b,off,rfl,hc.cell (p:=(Aw b (off+k))) hc1 (hn (Aw b off) rfl)⟩⟩
theorem LX (hn:nx<=549755813888)(ev:Ev):HapG K n (fun _=>True) room w0 mb fs nx ev:=by
 intro o W m V h;obtain⟨P,hP⟩:∃ P:Ending->Wd->Prop,P=fun x w'=>x=.returned (.tuple #[]) /\
  ∃ o' m' V',SatE K n (fun _=>True) room w0 mb fs nx w' o' m' V'/\m'.waits=m.waits/\m'.calls=m.calls/\(m'.d.pool.many<=m.d.pool.many\/m'.d.pool.many<=fs.length*2^n)/\ChgX NoB o o' W w':=⟨_,rfl⟩
 rw[<- hP];obtain⟨W1,g7⟩:=Ex (W.alloc (.cells #[Iv ev.after,Iv ev.kind,Iv ev.level] 77));have gh:Bw W W1:=by rw[g7];exact Ah W _
 obtain⟨bx,g0⟩:∃ q,q=W.heap.size:=⟨_,rfl⟩;have gB:Hq (Box o W1 bx (.cells #[Iv ev.after,Iv ev.kind,Iv ev.level] 77 (0,0))):=Hd ⟨by rw[g7,g0];exact Vv W _,h.lt.none (by rw[g0];exact Vu _)⟩;have h1:=h.below gh
 have HP:Hq (∀ o' w' m' V',HapS n room w0 mb fs nx o W1 m o' w' m' V'->P (.returned (.tuple #[])) w'):=Hd (by
  intro o' w' m' V' hh;rw[hP];exact⟨rfl,o',m',V',hh.sat.full,hh.waits,hh.calls,hh.many,(ChgX.of_below gh o NoB).trans (ChgX.of_chg hh.chg NoB) (fun _ _ e=>e)⟩)
 obtain⟨s,hs⟩:=h1.is;obtain⟨c0,c1,c2,c3,c4,c5,f0⟩:=cells6 hs.blk;have gA:=Hd (wclear h1 hs (fun _ _ _ _ _=>False));have H1:=Hd h1;obtain⟨kd,gr⟩:∃ z,z=ev.kind:=⟨_,rfl⟩;obtain⟨lv,gp⟩:∃ z,z=ev.level:=⟨_,rfl⟩;obtain⟨af,gw⟩:∃ z,z=ev.after:=⟨_,rfl⟩;have HN:=Hd hn;unfold evA;rw[<- gr,<- gp,<- gw] at gB g7 ⊢;have HW:=Hd g7;have HX:=Hd g0;clear h h1 hs hP gh g0 gr gp gw hn g7
 go_enter func243,ntmps243
 go_upto_region 1 with fail;rw[<- HW.o,<- HX.o];go_wp2_with fail;refine gA.o.mono ?_;rintro x w1 ⟨rfl,g1,g2,g3⟩;have g4:=Hd (H1.o.cleared g1 g2 g3);have HB2:=Hd (gB.o.chg g2);have HG:=Hd g1;have gk:Hq (Chg (fun _=>True) o o W1 w1):=Hd g2.any;have b1:w1.cell? (Aw bx 1)=some (Iv kd):=HB2.o.cell 1;have b2:w1.cell? (Aw bx 2)=some (Iv lv):=HB2.o.cell 2;clear c0 c1 c2 c3 c4 c5 f0 gA g1 g2 g3;obtain⟨c0,c1,c2,c3,c4,c5,f0⟩:=cells6 HG.o.blk
 by_cases k1:kd=1
 . subst k1;have HC:=Hd (Su g4.o HG.o);go_wp2_with fail;refine HC.o.mono ?_;rintro x w2 ⟨q,rfl,o',m',V',hh⟩;have HF:=Hd (HP.o o' w2 m' V' ⟨hh.sat,hh.waits,hh.calls,gk.o.trans hh.chg,hh.many⟩);clear hh;go_wp2_with fail;refine Xi (WC rfl _ _ _) rfl ?_;exact HF.o
 ·have e1:(kd == 1)=false:=by simp[k1]
  by_cases k2:kd=2
  ·subst k2;clear k1 e1;have HC:=Hd (LW (g4.o.below (Am w1 1)) (HG.o.below g4.o.lt (Am w1 1)) HN.o lv);go_upto_region 13 with fail;refine AJ (fun W:Wd=>W=w1.drew) true 6 [(0,false),(1,false),(2,false),(3,false),(4,false),(5,false),(6,true)] (by kernel_rfl) (by kernel_rfl) rfl ?_;simp only[planned,AH]
   iterate 6
    refine Aq rfl ?_;apply Exists.intro;refine⟨fun w' hw=>?_,?_⟩
    . subst hw;go_simp;rfl
    simp only[Ab]
   refine Eb rfl (by go_simp) (HC.o.mono (R':=fun e w'=>∃ v,e=.returned v/\∃ o' m' V',HapS n room w0 mb fs nx o w1.drew m o' w' m' V') (fun e w' h=>by obtain⟨q,e1,h2⟩:=h;exact⟨_,e1,h2⟩)) ?_;rintro v w2 ⟨o',m',V',hh⟩;simp only[Ab];refine Cm ?_;have HF:=Hd (HP.o o' w2 m' V' ⟨hh.sat,hh.waits,hh.calls,gk.o.trans ((Chg.of_below (Am w1 1) _ _).trans hh.chg),hh.many⟩);clear hh;go_wp2_with fail;refine Xi (WC rfl _ _ _) rfl ?_;exact HF.o
  ·have e2:(kd == 2)=false:=by simp[k2]
   clear k1 k2;have gc:m.d.vars.length<=64:=g4.o.ok.store.small;have HO:=Hd (KM HG.o.store g4.o.lt gc);go_wp2_with fail;refine HO.o.mono ?_;rintro x w2 ⟨v,rfl,g8,gv⟩;obtain⟨zs,ga⟩:=Ex (m.d.vars.map Int.ofNat);have gC:zs.length<=64:=by rw[ga,VP];exact gc
   rw[<- ga] at g8;obtain⟨a,c,rfl,ha,go⟩:=g8.sliceIs (by omega);have HT:=Hd (Ss a c zs w2 ha (by omega));have gF:Hq (SliceIs w2 (.slice a zs.length c) zs):=Hd ⟨a,c,rfl,ha,go⟩;have g9:=Hd gv;have gK:=Hd gC;clear g8 gv ga ha go gc c0 c1 c2 c3 c4 c5 f0 b1 b2 HO;go_wp2_with fail;refine HT.o.mono ?_;rintro x w3 ⟨vt,rfl,gD,gg⟩;obtain⟨at',ct',gm,q1,q2⟩:=gD;rw[List.length_reverse] at gm;subst gm;have gx:=Hd (LV (.slice a zs.length c) (.slice at' zs.length ct') zs zs.reverse w3 (gF.o.below gg) ⟨at',ct',by rw[List.length_reverse],q1,q2⟩ (by omega) (by simp;omega));have gl:=Hd gg;clear gg HT q1 q2;go_wp2_with fail;refine gx.o.mono ?_;rintro x w4 ⟨vr,rfl,g6,gu⟩;obtain⟨rs,gn⟩:=Ex (BQ zs zs.reverse);obtain⟨er,gt⟩:∃ z,z=Cj zs zs.reverse:=⟨_,rfl⟩;rw[<- gn] at g6;rw[<- gt];have g0:Bw w1 w4:=g9.o.trans ((gl.o.trans (gu.mono gl.o.size)).mono g9.o.size);have ge:=g6.lt;have gE:rs.length<=9223372036854775807:=Sv g6;obtain⟨ar,cr,rfl,hi,_⟩:=g6.sliceIs gE
   have gj:Hq (∃ o' m' V',HapS n room w0 mb fs nx o w1 m o' w4 m' V'/\Ar w4 ar rs/\(∀ x,ar=some x->o' x.block=none)):=Hd ⟨o,m,V,(⟨g4.o.below g0,rfl,rfl,Chg.of_below g0 _ _,.inl (Vu _)⟩:HapS n room w0 mb fs nx o w1 m o w4 m V),hi,fun x hx=>by
    subst hx;refine g4.o.lt.none ?_;have h1:=(ge _ rfl).1;have h2:=g9.o.size;have h3:=gl.o.size;omega⟩
   clear gt gn g6 gu g0 ge hi gx;go_wp2_with fail
   go_loopw [30] (fun s30 wr=>∃ j:Nat,j<=rs.length/\s30=Iv j/\Hq (∃ o' m' V',HapS n room w0 mb fs nx o w1 m o' wr m' V'/\Ar wr ar rs/\(∀ x,ar=some x->o' x.block=none))) (fun s30 _=>rs.length-(intOf s30).toNat)
   case atStart=>exact⟨0,VC _,rfl,gj⟩
   case round =>
    obtain⟨j,hj,rfl,HH⟩:=hrel;obtain⟨oj,mj,Vj,hh,hi,gd⟩:=HH.o
    by_cases gq:j<rs.length
    ·obtain⟨b,off,rfl,g5⟩:=hi.cells j gq;obtain⟨s',hs'⟩:=hh.sat.is;obtain⟨c0,c1,c2,c3,c4,c5,f0⟩:=cells6 hs'.blk;have gJ:(j:Int)<rs.length:=by omega
     obtain⟨z,hz⟩:=Ex (at0 rs j);rw[<- hz] at g5;have HC:=Hd (LW hh.sat hs' HN.o z);have gH:=Hd hh;have gG:=Hd hi;have gy:=Hd gd;have gf:b<wr.heap.size:=Af g5;have gI:=Hd gf;have gz:=Hd gq;clear hh hi gd hs' HH gj hz gf;go_wp2_with fail;refine HC.o.mono ?_;rintro x w5 ⟨q,rfl,o5,m5,V5,h5⟩;have gi:=Hd (And.intro (gH.o.trans h5) (And.intro (gG.o.chg h5.chg gy.o) (fun x (hx:some _=some x)=>h5.chg.alien' (by cases hx;exact gI.o) (gy.o x hx))));clear h5 c0 c1 c2 c3 c4 c5 f0 g5;go_wp2_with fail;go_roundw
     case rel=>exact⟨j+1,XB gz.o,by go_num,Hd ⟨_,_,_,gi.o.1,gi.o.2.1,gi.o.2.2⟩⟩
     case measure =>
      have:=gz.o;simp[intOf];omega
    ·obtain rfl:j=rs.length:=by omega
     have HF:=Hd (HP.o oj wr mj Vj ⟨hh.sat,hh.waits,hh.calls,gk.o.trans hh.chg,hh.many⟩);clear hh hi gd HH gj;go_wp2_with fail;refine Xi (WC rfl _ _ _) rfl ?_;exact HF.o
end
section
variable {o:Own}
structure NewH (K:Law)(n:Nat)(Od:List Nat->Prop)(room:Nat)(w0:Wd)(mb:Nat)(fs:List (Int×BF))(nx:Int)(o:Own)(w:Wd)(m:ManD)(V:Nat->BF)(F:BF)(o':Own)(w':Wd)(m':ManD):Prop where
 sat:SatE K n Od room w0 mb (fs++[(nx,F)]) (nx+1) w' o' m' V
 waits:m'.waits=m.waits
 calls:m'.calls=m.calls
 nodes:Aa m'.d=Aa m.d
 vars:m'.d.vars=m.d.vars
 many:m'.d.pool.many=m.d.pool.many
 chg:Chg (fun _=>True) o o' w w'
theorem Sw (hK:AO K)(h:SatE K n Od room w0 mb fs nx w o m V)(hn:nx<549755813888){k:Int}(hk:(k,F)∈fs) :
 Cl 114 #[Pt mb,Iv k] w fun x w'=>x=.returned (.tuple #[Iv nx,Iv 0])/\∃ o' m',NewH K n Od room w0 mb fs nx o w m V F o' w' m':=by
 obtain⟨f,hf,rfl⟩:=h.find hk;obtain⟨s,hs⟩:=h.is;obtain⟨c0,c1,c2,c3,c4,c5,f0⟩:=cells6 hs.blk;have hl:=Ea hs h.ok.handles.nodup hf;have hnx:=h.next
 have HG:=Hd (Ij hK h.is h.lt h.ok f (h.ok.handles.ok _ hf) (by rw[hnx];omega));have H:=Hd h;rw[hnx] at HG;clear hs h hf hk hnx
 go_enter func114,ntmps114
 go_wp2_with fail;refine HG.o.mono ?_;rintro x w1 ⟨rfl,o',m',hg⟩;have HQ:Hq (NewH K n Od room w0 mb fs nx o w m V (ef V f) o' w1 m'):=Hd ⟨H.o.gave hg,hg.waits,hg.calls,hg.nodes,hg.vars,hg.many,hg.chg⟩;clear hg;go_wp2_with fail
 go_ret2
 exact⟨rfl,_,_,HQ.o⟩
theorem Sx (h:okE N e):okE N (enot e):=by
 unfold okE at h ⊢;rw[D2];exact h
theorem Sy (hK:AO K)(h:SatE K n Od room w0 mb fs nx w o m V)(hn:nx<549755813888){k:Int}(hk:(k,F)∈fs) :
 Cl 117 #[Pt mb,Iv k] w fun x w'=>x=.returned (.tuple #[Iv nx,Iv 0])/\∃ o' m',NewH K n Od room w0 mb fs nx o w m V (fun ρ => !F ρ) o' w' m':=by
 obtain⟨f,hf,rfl⟩:=h.find hk;obtain⟨s,hs⟩:=h.is;obtain⟨c0,c1,c2,c3,c4,c5,f0⟩:=cells6 hs.blk;have hl:=Ea hs h.ok.handles.nodup hf;have hnx:=h.next
 have g0:=h.ok.handles.ok _ hf;have g1:f<eMax:=by
  obtain⟨s2,h2⟩:=hs.store;have:=h2.edge_lt g0;unfold eMax;omega
 have HG:=Hd (Ij hK h.is h.lt h.ok (enot f) (Sx g0) (by rw[hnx];omega));have g2:=Hd (G6 f w g1);have H:=Hd h;rw[hnx] at HG;clear hs h hf hk hnx g0 g1
 go_enter func117,ntmps117
 go_wp2_with fail;refine g2.o.mono ?_;rintro x w1 ⟨rfl,rfl⟩;go_wp2_with fail;refine HG.o.mono ?_;rintro x w1 ⟨rfl,o',m',hg⟩
 have HQ:Hq (NewH K n Od room w0 mb fs nx o w m V (fun ρ => !ef V f ρ) o' w1 m'):=Hd (by
  have e:(fun ρ => !ef V f ρ)=ef V (enot f):=by funext ρ;rw[D3]
  rw[e];exact⟨H.o.gave hg,hg.waits,hg.calls,hg.nodes,hg.vars,hg.many,hg.chg⟩)
 clear hg;go_wp2_with fail
 go_ret2
 exact⟨rfl,_,_,HQ.o⟩
theorem SatE.nofind (h:SatE K n Od room w0 mb fs nx w o m V){k:Int}(hk:∀ p∈fs,p.1≠k):∀ f,(k,f)∉m.hs:=by
 intro f hf;refine hk (k,ef V f) ?_ rfl;rw[<- h.hs];exact VD.2 ⟨(k,f),hf,rfl⟩
theorem IG (h:SatE K n Od room w0 mb fs nx w o m V){k:Int}(hk:(k,F)∈fs) :
 Cl 20 #[Pt mb,Iv k] w (Sm (.bool true) w):=by
 obtain⟨f,hf,rfl⟩:=h.find hk;obtain⟨s,hs⟩:=h.is;obtain⟨c0,c1,c2,c3,c4,c5,f0⟩:=cells6 hs.blk;have hl:=Ea hs h.ok.handles.nodup hf;clear hs h hf hk
 go_enter func20,ntmps20
 go_wp2_with fail;go_ret;exact⟨rfl,rfl⟩
theorem Sz (h:SatE K n Od room w0 mb fs nx w o m V){k:Int}(hk:∀ p∈fs,p.1≠k) :
 Cl 20 #[Pt mb,Iv k] w (Sm (.bool false) w):=by
 have g0:=h.nofind hk;obtain⟨s,hs⟩:=h.is;obtain⟨c0,c1,c2,c3,c4,c5,f0⟩:=cells6 hs.blk;have hl:=Qd hs g0;clear hs h g0 hk
 go_enter func20,ntmps20
 go_wp2_with fail;go_ret;exact⟨rfl,rfl⟩
end
def delK {α:Type}(k:Int)(l:List (Int×α)):List (Int×α):=l.filter fun p=>decide (p.1≠k)
theorem II {α:Type}{k:Int}{l:List (Int×α)}(h:∀ p∈l,p.1≠k):delK k l=l:=by
 unfold delK;rw[List.filter_eq_self];intro p hp;simp[h p hp]
theorem IJ {α:Type}{x:Int×α}{l:List (Int×α)}(h:((x::l).map Prod.fst).Nodup):∀ p∈l,p.1≠x.1:=by
 intro p hp e;rw[WG,X0] at h;exact h.1 (VD.2 ⟨p,hp,e⟩)
theorem LY {α:Type}{x:Int×α}{l:List (Int×α)}(h:((x::l).map Prod.fst).Nodup):delK x.1 (x::l)=l:=by
 have h1:=II (IJ h);unfold delK at h1 ⊢;rw[XJ (by simp),h1]
abbrev Ye:=@List.filter_cons_of_pos
theorem LZ {α:Type}{k:Int}{x:Int×α}{l:List (Int×α)}(h:x.1≠k):delK k (x::l)=x::delK k l:=by
 unfold delK;rw[Ye (by simp[h])]
theorem Ma {α:Type}{k:Int}:∀ (l:List (Int×α)) (j:Nat) (hj:j<l.length),(l.map Prod.fst).Nodup->l[j].1=k->l.eraseIdx j=delK k l
 | x::l,0,_,hn,hk=>by
   have e:x.1=k:=hk;subst e;rw[LY hn];rfl
 | x::l,j+1,hj,hn,hk=>by
   have hj':j<l.length:=by simpa using hj
   have g0:l[j].1=k:=by simpa using hk
   have hx:x.1≠k:=by
    intro e;exact IJ hn l[j] (VG hj') (g0.trans e.symm)
   have g1:(l.map Prod.fst).Nodup:=by rw[WG,X0] at hn;exact hn.2
   rw[LZ hx,List.eraseIdx_cons_succ,Ma l j hj' g1 g0]
theorem Mb {α β:Type}(k:Int)(l:List (Int×α))(g:Int×α->Int×β)(hg:∀ p,(g p).1=p.1):(delK k l).map g=delK k (l.map g):=by
 unfold delK;rw[List.filter_map];congr 1;refine List.filter_congr fun p _=>?_
 simp[hg]
theorem S0 {k:Int}{l:List (Int×Value)}(hn:(l.map Prod.fst).Nodup)(hk:(k,v)∈l):delL k l=delK k l:=by
 unfold delL;cases e:AE k l 0 with
 | none =>
   have h1:=D5 hn hk;unfold getL at h1;rw[e] at h1;cases h1
 | some p =>
   obtain⟨j,u⟩:=p;have h2:=CU e;obtain⟨q,h3,h4⟩:=h2;have hq:j=q:=by omega
   subst hq;obtain⟨h5,h6⟩:=Wf.1 h4;exact Ma l j h5 hn (by rw[h6])
theorem Ge {α:Type}{k:Int}{l:List (Int×α)}{p:Int×α}:p∈delK k l↔p∈l/\p.1≠k:=by
 unfold delK;rw[WO];simp
theorem Mc {k:Int}{f:Nat}(h1:1<k):∀ (hs:List (Int×Nat)),(hs.map Prod.fst).Nodup->(k,f)∈hs->∀ i,AQ hs i=AQ (delK k hs) i+(if f/2=i then 1 else 0)
 | [],_,h,_=>by cases h
 | x::l,hn,hm,i=>by
   have hn':(l.map Prod.fst).Nodup:=by rw[WG,X0] at hn;exact hn.2
   by_cases e:x.1=k
   ·have hx:x=(k,f):=by
     rcases Wj.1 hm with h|h
     . exact h.symm
     . exact((IJ hn _ h) e.symm).elim
    subst hx;rw[LY hn];unfold AQ
    by_cases e2:f/2=i
    . rw[Ye (by simp[h1,e2]),VO,Vw e2]
    . rw[XJ (by simp[e2]),Vs e2];rfl
   ·have g0:(k,f)∈l:=by
     rcases Wj.1 hm with h|h
     . rw[<- h] at e;exact(e rfl).elim
     . exact h
    have ih:=Mc h1 l hn' g0 i;rw[LZ e];unfold AQ at ih ⊢
    by_cases e3:(decide (1<x.1)&&x.2/2 == i)=true
    . rw[Ye (p:=fun p:Int×Nat=>decide (1<p.1)&&p.2/2 == i) e3,Ye (p:=fun p:Int×Nat=>decide (1<p.1)&&p.2/2 == i) e3,VO,VO];omega
    . rw[XJ (p:=fun p:Int×Nat=>decide (1<p.1)&&p.2/2 == i) e3,XJ (p:=fun p:Int×Nat=>decide (1<p.1)&&p.2/2 == i) e3];exact ih
theorem S1 {k:Int}(h:Cc m)(r:Dp m.d d' f (-1))(hk:(k,f)∈m.hs)(h1:1<k)(h0:Aa m.d 0=none):Cc { m with d:=d',hs:=delK k m.hs }:=by
 have g1:∀ {p:Int×Nat},p∈delK k m.hs->p∈m.hs:=fun hp=>(Ge.1 hp).1
 refine⟨?_,Ge.2 ⟨h.zero,by dsimp only;omega⟩,Ge.2 ⟨h.one,by dsimp only;omega⟩,fun p hp=>h.lt p (g1 hp),h.next,fun p hp=>?_,?_,fun i b hb=>?_⟩
 . exact h.nodup.sublist ((XV).map _)
 ·show okE (Aa d') p.2
  rw[r.nodes];exact h.ok p (g1 hp)
 ·have h2:(delK k m.hs).length<=m.hs.length:=WD _ _;have h3:=h.len
  show ((delK k m.hs).length:Int)<=m.next
  omega
 ·have g0:Aa m.d i=some b:=by
   have:Aa d' i=some b:=hb;rw[r.nodes] at this;exact this
  have hi:i≠0:=by rintro rfl;rw[h0] at g0;cases g0
  show Aj d' i=(AQ (delK k m.hs) i:Int)
  rw[r.ext i hi,h.refs i b g0,Mc h1 m.hs h.nodup hk i];unfold toE;split<;>(simp;try omega)
section
variable {o:Own}
theorem S2 (h:Az o w sb m.d)(hlt:Ac o w)(hk:DV m V){k:Int}(hf:(k,f)∈m.hs)(h1:1<k)(hn:m.next<549755813888) :
 Cl 163 #[Pt sb,Iv f] w fun x w'=>x=.returned (Iv 0)/\∃ d',Az o w' sb d'/\Ac o w'/\Dp m.d d' f (-1)/\Chg Al o o w w':=by
 have g0:∀ y b,Aa m.d y=some b->Aj m.d y<1099511627776:=fun y b _=>by have:=LK hk.handles y;omega
 have g1:=hk.handles.ok _ hf;obtain⟨s,h⟩:=h;have g2:=h.edge_lt g1;rcases g1 with h0|⟨b,hb⟩
 . refine(Pr h hlt hk.store.live f (by unfold eMax;omega) h0).mono ?_;rintro e w' ⟨d',h1,h2,h3,h4,h5⟩;exact⟨h1,d',⟨s,h2⟩,h3,h4,h5⟩
 ·have g4:=h.pool.top;have g3:=h.pool.room;refine(Ps h hlt hk.store.live (KJ hk.store) f (b:=b) hb g0 ?_ (fun y c hc=>?_)).mono ?_
  . have h2:=hk.handles.refs (enode f) b hb;have h3:0<AQ m.hs (f/2):=LJ hf h1;have h4:Aj m.d (enode f)=(AQ m.hs (f/2):Int):=h2;omega
  . have h1:=hk.store.live.cnt.le hc;have h2:=g0 y c hc;omega
  . rintro e w' ⟨d',h1,h2,h3,h4,h5⟩;exact⟨h1,d',⟨s,h2⟩,h3,h4,h5⟩
end
def BU {α:Type}(l:List (Int×α))(ks:List Int):List (Int×α):=ks.foldl (fun l k=>if 1<k then delK k l else l) l
theorem Md {α:Type}{l:List (Int×α)}(hj:j<ks.length):BU l (ks.take (j+1))=if 1<at0 ks j then delK (at0 ks j) (BU l (ks.take j)) else BU l (ks.take j):=by
 unfold BU;rw[Vz hj,Xt,As hj];rfl
section
variable {o:Own}
structure C2 (K:Law)(n:Nat)(Od:List Nat->Prop)(room:Nat)(w0:Wd)(mb:Nat)(fs:List (Int×BF))(nx:Int)(o:Own)(w:Wd)(m:ManD)(V:Nat->BF)(o':Own)(w':Wd)(m':ManD):Prop where
 sat:SatE K n Od room w0 mb fs nx w' o' m' V
 waits:m'.waits=m.waits
 calls:m'.calls=m.calls
 nodes:Aa m'.d=Aa m.d
 many:m'.d.pool.many=m.d.pool.many
 chg:Chg (fun _=>True) o o' w w'
theorem C2.trans {fs' fs'':List (Int×BF)}{o'':Own}{w'':Wd}{m'':ManD}(h:C2 K n Od room w0 mb fs' nx o w m V o' w' m')(h':C2 K n Od room w0 mb fs'' nx o' w' m' V o'' w'' m''):C2 K n Od room w0 mb fs'' nx o w m V o'' w'' m'' :=
 ⟨h'.sat,h'.waits.trans h.waits,h'.calls.trans h.calls,h'.nodes.trans h.nodes,h'.many.trans h.many,h.chg.trans h'.chg⟩
theorem S3 (hK:AO K)(h:SatE K n Od room w0 mb fs nx w o m V){k:Int}(hf:(k,f)∈m.hs)(h1:1<k){s:ManW}(hs:A8 (K m.d V) o w mb m s)(hst:Az o w1 s.sb d')(hl1:Ac o w1)(hr:Dp m.d d' f (-1))(hc1:Chg Al o o w w1) :
 A8 (K m.d V) o w1 mb { m with d:=d' } s/\∃ w2,(Builtin.delete_ #[98,3] 0 #[.map (some s.hb),Iv k]).run prog w1=.ok (.tuple #[]) w2/\C2 K n Od room w0 mb (delK k fs) nx o w m V o w2 { m with d:=d',hs:=delK k m.hs }:=by
 have g0:=hs.setStore h.lt hst hc1;refine⟨g0,?_⟩;obtain⟨w2,g3,g5,g1⟩:=g0.map.delete kI underlying98 k 0;refine⟨w2,g3,?_⟩;have he:delL k (encH m.hs)=encH (delK k m.hs):=by
  rw[S0 (DZ h.ok.handles.nodup) (v:=Iv (f:Nat)) (VD.2 ⟨(k,f),hf,rfl⟩)];exact(Mb k m.hs (fun p=>(p.1,Value.int .i64 (p.2:Nat))) (fun _=>rfl)).symm
 have g4:A3 w2 s.hb (Value.int .i64) (encH (delK k m.hs)):=by rw[<- he];exact g5
 have g7:=g0.setMap hl1 g4 g1;have g6:Ac o w2:=hl1.mono g1.size;have g2:Chg (fun _=>True) o o w w2:=hc1.any.grown g1 (fun g hg=>by cases hg;exact⟨_,g0.ownh,trivial⟩);refine⟨⟨⟨s,g7.mono fun op a b c r q=>hK.same _ _ _ _ _ _ _ _ hr.vars hr.level hr.nodes q⟩,g6,⟨hr.ok h.ok.store,S1 h.ok.handles hr hf h1 h.ok.store.dag.none0⟩,?_,?_,?_,h.next,?_,h.chg.lower (ChgX.of_chg g2 NoB) (fun _ e=>e.elim)⟩,rfl,rfl,hr.nodes,hr.many,g2⟩
 ·show d'.vars.length=n
  rw[hr.vars];exact h.vars
 ·show Od d'.vars
  rw[hr.vars];exact h.od
 ·show d'.pool.room=room
  rw[hr.room];exact h.room
 ·show (delK k m.hs).map (fun p=>(p.1,ef V p.2))=delK k fs
  rw[Mb k m.hs (fun p=>(p.1,ef V p.2)) (fun _=>rfl),h.hs]
theorem S4 (hK:AO K)(h:SatE K n Od room w0 mb fs nx w o m V)(hn:nx<549755813888){a:Option Addr}(hks:Ar w a ks)(hno:∀ x,a=some x->o x.block=none)
 (hin:∀ j,j<ks.length->∃ F,(at0 ks j,F)∈BU fs (ks.take j)) :
 Cl 118 #[Pt mb,.slice a ks.length c] w fun x w'=>x=.returned (Iv 0)/\∃ o' m',C2 K n Od room w0 mb (BU fs ks) nx o w m V o' w' m':=by
 have gk:=hks.len;have g5:Hq (∃ o' m',C2 K n Od room w0 mb (BU fs (ks.take 0)) nx o w m V o' w m'/\Ar w a ks/\(∀ x,a=some x->o' x.block=none)):=Hd ⟨o,m,⟨h,rfl,rfl,rfl,rfl,Chg.refl _ _ _⟩,hks,hno⟩;have gh:=Hd hin;have HN:=Hd hn;have gg:=Hd hK;clear h hn hks hno hin hK
 go_enter func118,ntmps118
 go_wp2_with fail
 go_loopw [13] (fun s13 wr=>∃ j:Nat,j<=ks.length/\s13=Iv j/\Hq (∃ o' m',C2 K n Od room w0 mb (BU fs (ks.take j)) nx o w m V o' wr m'/\Ar wr a ks/\(∀ x,a=some x->o' x.block=none))) (fun s13 _=>ks.length-(intOf s13).toNat)
 case atStart=>exact⟨0,VC _,rfl,g5⟩
 case round =>
  obtain⟨j,hj,rfl,HH⟩:=hrel;obtain⟨oj,mj,hh,hi,hno⟩:=HH.o
  by_cases g6:j<ks.length
  ·obtain⟨b,off,rfl,g3⟩:=hi.cells j g6;obtain⟨s,hs⟩:=hh.sat.is;obtain⟨c0,c1,c2,c3,c4,c5,f0⟩:=cells6 hs.blk;have gl:(j:Int)<ks.length:=by omega
   obtain⟨z,hz⟩:=Ex (at0 ks j);obtain⟨F,hF⟩:=gh.o j g6;rw[<- hz] at hF g3;obtain⟨f,hf,gc⟩:=hh.sat.find hF;have hl:=Ea hs hh.sat.ok.handles.nodup hf;have g8:=Hd hh;have gf:=Hd hi;have g7:=Hd hno;have gi:Hq (b<wr.heap.size):=Hd (Af g3);have g2:=Hd g6;have HZ:=Hd hz;have HS:=Hd hs;have HF:=Hd hf
   by_cases h1:z>1
   ·have HD:=Hd (S2 hs.store hh.sat.lt hh.sat.ok hf h1 (by rw[hh.sat.next];exact HN.o));have H1:=Hd h1;clear hh hi hno hs HH g5 hz hF hf gc;go_wp2_with fail;refine HD.o.mono ?_;rintro x w1 ⟨rfl,d',g9,ga,hr,gd⟩;obtain⟨ge,w2,gj,g4⟩:=S3 gg.o g8.o.sat HF.o H1.o HS.o g9 ga hr gd;obtain⟨e0,e1,e2,e3,e4,e5,g0⟩:=cells6 ge.blk
    have g1:Hq (C2 K n Od room w0 mb (BU fs (ks.take (j+1))) nx o w m V oj w2 { mj with d:=d',hs:=delK z mj.hs }/\Ar w2 (some (Aw b off)) ks/\(∀ x,some ((Aw b off):Addr)=some x->oj x.block=none)):=Hd ⟨by
     rw[Md g2.o,<- HZ.o,Vw H1.o];exact g8.o.trans g4,gf.o.chg g4.chg g7.o,fun x hx=>g4.chg.alien' (by cases hx;exact gi.o) (g7.o x hx)⟩
    clear ge g9 ga hr gd g4 c0 c1 c2 c3 c4 c5 f0 g3 hl;go_wp2_with fail;go_roundw
    case rel=>exact⟨j+1,XB g2.o,by go_num,Hd ⟨_,_,g1.o.1,g1.o.2.1,g1.o.2.2⟩⟩
    case measure =>
     have:=g2.o;simp[intOf];omega
   ·have g1:Hq (C2 K n Od room w0 mb (BU fs (ks.take (j+1))) nx o w m V oj wr mj/\Ar wr (some (Aw b off)) ks/\(∀ x,some ((Aw b off):Addr)=some x->oj x.block=none)):=Hd ⟨by
     rw[Md g2.o,<- HZ.o,Vs h1];exact g8.o,gf.o,g7.o⟩
    clear hh hi hno hs HH g5 hz hF hf gc;go_wp2_with fail;go_roundw
    case rel=>exact⟨j+1,XB g2.o,by go_num,Hd ⟨_,_,g1.o.1,g1.o.2.1,g1.o.2.2⟩⟩
    case measure =>
     have:=g2.o;simp[intOf];omega
  ·obtain rfl:j=ks.length:=by omega
   have HF:Hq (∃ o' m',C2 K n Od room w0 mb (BU fs ks) nx o w m V o' wr m'):=Hd ⟨oj,mj,by rw[Wb] at hh;exact hh⟩;clear hh hi hno HH g5;go_wp2_with fail;go_ret;exact⟨rfl,HF.o⟩
end
section
variable {o:Own}
structure Swapped (K:Law)(n room:Nat)(w0:Wd)(mb:Nat)(fs:List (Int×BF))(nx:Int)(k:Nat)(o:Own)(w:Wd)(m:ManD)(o':Own)(w':Wd)(m':ManD)(V':Nat->BF):Prop where
 sat:SatE K n (fun l=>l=(Bd m.d k).vars) room w0 mb fs nx w' o' m' V'
 waits:m'.waits=m.waits
 calls:m'.calls=m.calls
 dead:m'.d.dead=0
 chg:Chg (fun _=>True) o o' w w'
theorem Me (h:SatE K n Od room w0 mb fs nx w o m V)(hk1:k+1<n)(hn:nx<=549755813888)(hr:3*(fs.length*2^n)<=room) :
 Cl 113 #[Pt mb,Iv k] w fun e w'=>e=.returned (Iv 0)/\∃ o' m' V',Swapped K n room w0 mb fs nx k o w m o' w' m' V':=by
 refine(RY h hk1 hn).mono ?_;rintro e w' ⟨o',m',V',hm⟩;obtain⟨d0,cr,⟨rfl,e1,e2,g0⟩|⟨rfl,so⟩⟩:=hm.way
 . exfalso;have h1:=hm.sat.few (by rw[e1];exact cr.dead);have h2:=hm.sat.room;rw[e1] at h1 h2;omega
 . refine⟨rfl,o',m',V',⟨hm.sat.withOd ?_,hm.waits,hm.calls,so.dead,hm.chg⟩⟩;rw[so.vars];unfold Bd;dsimp only;rw[cr.vars]
end
theorem Mf {α:Type}{p:Int×α}:∀ {ks:List Int} {l:List (Int×α)},p∈l->p.1∉ks->p∈BU l ks
 | [],l,h,_=>h
 | k::ks,l,h,hn=>by
   show p∈BU (if 1<k then delK k l else l) ks
   simp only[Wj,not_or] at hn;refine Mf ?_ hn.2;split
   . exact Ge.2 ⟨h,hn.1⟩
   . exact h
theorem S5 {α:Type}{l r:List (Int×α)}{p:Int×α}(h:((l++p::r).map Prod.fst).Nodup):delK p.1 (l++p::r)=l++r:=by
 rw[VU,WG,Wh] at h;obtain⟨h1,h2,h3⟩:=h;have hl:∀ q∈l,q.1≠p.1:=fun q hq e=>h3 q.1 (VD.2 ⟨q,hq,rfl⟩) p.1 (VM ..) e
 have hr:∀ q∈r,q.1≠p.1:=fun q hq e=>(X0.1 h2).1 (VD.2 ⟨q,hq,e⟩)
 have e1:delK p.1 (l++p::r)=delK p.1 l++delK p.1 r:=by
  unfold delK;rw[WM,X4];simp
 rw[e1,II hl,II hr]
abbrev Wi:=@List.mem_cons_of_mem
theorem Mg {α:Type}:∀ (hs l r:List (Int×α)),((l++(hs++r)).map Prod.fst).Nodup->(∀ p∈hs,1<p.1)->BU (l++(hs++r)) (hs.map Prod.fst)=l++r
 | [],l,r,_,_=>rfl
 | p::hs,l,r,hn,h1=>by
   show BU (if 1<p.1 then delK p.1 (l++(p::(hs++r))) else l++(p::(hs++r))) (hs.map Prod.fst)=_
   have hn':((l++p::(hs++r)).map Prod.fst).Nodup:=hn;rw[Vw (h1 p (VM ..)),S5 hn'];refine Mg hs l r ?_ (fun q hq=>h1 q (Wi _ hq));have:=hn;rw[VU,Wh] at this ⊢;obtain⟨q1,q2,q3⟩:=this;exact⟨q1,(X0.1 q2).2,fun x hx y hy=>q3 x hx y (Wi _ hy)⟩
section
variable {o:Own}
theorem SatE.fst (h:SatE K n Od room w0 mb fs nx w o m V):fs.map Prod.fst=m.hs.map Prod.fst:=by rw[<- h.hs,Xa];rfl
theorem SatE.nodup (h:SatE K n Od room w0 mb fs nx w o m V):(fs.map Prod.fst).Nodup:=by rw[h.fst];exact h.ok.handles.nodup
theorem SatE.range (h:SatE K n Od room w0 mb fs nx w o m V):∀ p∈fs,0<=p.1/\p.1<nx:=by
 intro p hp;rw[<- h.hs] at hp;obtain⟨q,hq,rfl⟩:=VD.1 hp;rw[<- h.next];exact h.ok.handles.lt q hq
structure B2 (fs:List (Int×BF)):Prop where
 zero:(0,fun _=>false)∈fs
 one:(1,fun _=>true)∈fs
theorem B2.app (h:B2 fs)(hs:List (Int×BF)):B2 (fs++hs):=⟨Wx _ h.zero,Wx _ h.one⟩
abbrev WY:=@List.mem_append_right
theorem SatE.gt (h:SatE K n Od room w0 mb (fs++hs) nx w o m V)(hb:B2 fs):∀ p∈hs,1<p.1:=by
 intro p hp;have h1:=(h.range p (WY _ hp)).1;have h2:=h.nodup;rw[VU,Wh] at h2;have h3:=fun k hk=>h2.2.2 k hk p.1 (VD.2 ⟨p,hp,rfl⟩)
 have h4:=h3 0 (VD.2 ⟨_,hb.zero,rfl⟩);have h5:=h3 1 (VD.2 ⟨_,hb.one,rfl⟩);omega
theorem S6 (hK:AO K)(h:SatE K n Od room w0 mb (fs++(hs++r)) nx w o m V)(hb:B2 fs)(hn:nx<549755813888){a:Option Addr}(hks:Ar w a (hs.map Prod.fst))(hno:∀ x,a=some x->o x.block=none) :
 Cl 118 #[Pt mb,.slice a hs.length c] w fun x w'=>x=.returned (Iv 0)/\∃ o' m',C2 K n Od room w0 mb (fs++r) nx o w m V o' w' m':=by
 have g0:=h.nodup;have g3:=h.gt hb;have e:BU (fs++(hs++r)) (hs.map Prod.fst)=fs++r:=Mg hs fs r g0 (fun p hp=>g3 p (Wx _ hp));have:=S4 hK h hn (c:=c) hks hno fun j hj=>by
  have g1:j<hs.length:=by simpa using hj
  have e1:at0 (hs.map Prod.fst) j=hs[j].1:=by rw[As hj];simp
  refine⟨hs[j].2,?_⟩;rw[e1];refine Mf (WY _ (Wx _ (VG g1))) ?_;rw[VU,Wh,VU,Wh] at g0;have hh:=g0.2.1.1;intro hc;obtain⟨i,hi,e2⟩:=WW hc;have g2:i<j:=by simp at hi;omega
  rw[List.getElem_take] at e2;exact(WE.1 hh) i j (by simp;omega) hj g2 (by rw[e2];simp)
 rw[e,VP] at this;exact this
theorem Mh {x:Ending}(hp:Dt K n Od room w0 mb fs nx ws0 lim k F o w x w')(hk:k<=2^n)(hr:(fs.length+1)*2^n<=room) :
 ∃ o' m' V',ChgX NoB o o' w w'/\m'.waits <:+ ws0/\x=.returned (.tuple #[Iv nx,Iv 0])/\SatE K n Od room w0 mb (fs++[(nx,F)]) (nx+1) w' o' m' V':=by
 obtain⟨o',m',V',h1,h2,⟨h3,_,h4⟩|⟨_,_,_,m0,⟨W,oo,VV,hs⟩,h5,h6⟩⟩:=hp
 . exact⟨o',m',V',h1,h2,h3,h4⟩
 . exfalso;have:=hs.few h5;rw[Xm] at hr;omega
theorem Mi {M:Nat}{x:Ending}(hp:Dt K n Od room w0 mb fs nx [] (some M) k F o w x w') :
 ∃ o' m' V',ChgX NoB o o' w w'/\(m'.waits=[]/\m'.d.pool.many<=M+k)/\x=.returned (.tuple #[Iv nx,Iv 0])/\SatE K n Od room w0 mb (fs++[(nx,F)]) (nx+1) w' o' m' V':=by
 obtain⟨o',m',V',h1,h2,⟨h3,h5,h4⟩|⟨_,h,_⟩⟩:=hp
 . exact⟨o',m',V',h1,⟨by simpa using h2,h5 M rfl⟩,h3,h4⟩
 . cases h
end
def cntT:Nat->(Nat->Bool)->Nat
 | 0,_=>0
 | k+1,f=>cntT k f+(if f k then 1 else 0)
theorem Em (k:Nat)(f:Nat->Bool):cntT (k+1) f=cntT k f+(if f k then 1 else 0):=rfl
theorem Mj (f:Nat->Bool):∀ k,cntT k f<=k
 | 0=>Vu _
 | k+1=>by
   have:=Mj f k;rw[Em];split<;>omega
def opB (op:Int)(n:Nat)(f:Nat->Bool):Bool :=
 if op=1 then true else if op=4 then decide (cntT n f=0) else if op=5 then decide (cntT n f=n) else if op=6 then decide (0<cntT n f) else if op=7 then decide (cntT n f%2=1)
 else if op=8 then (!f 0||f 1) else if op=9 then decide (cntT n f≠1) else if op=10 then iteB (f 0) (f 1) (f 2) else false
def fnT:ExT->BF
 | .nil=>fun _=>false
 | .mk op v n kid=>fun ρ=>if op=3 then ρ v.toNat else opB op n fun i=>fnT (kid i) ρ
def notF (F:BF):BF:=fun ρ => !F ρ
def Dw (op:Int)(F G:BF):BF :=
 if op=5 then Bc F G (fun _=>false) else if op=6 then Bc F (fun _=>true) G else if op=8 then Bc F G (fun _=>true) else if op=7 then Bc F (notF G) G else Bc F G (notF G)
def accT (op:Int)(kid:Nat->ExT):Nat->BF
 | 0=>fun _=>decide (op=5)
 | k+1=>Dw op (accT op kid k) (fnT (kid k))
theorem Mk (kid:Nat->ExT)(ρ:Nat->Bool):∀ k,accT 5 kid k ρ=decide (cntT k (fun i=>fnT (kid i) ρ)=k)
 | 0=>rfl
 | k+1=>by
   have h1:accT 5 kid (k+1) ρ=iteB (accT 5 kid k ρ) (fnT (kid k) ρ) false:=rfl;have h2:=Mj (fun i=>fnT (kid i) ρ) k;rw[h1,Mk kid ρ k,Em];unfold iteB;cases hf:fnT (kid k) ρ
   ·have:(cntT k fun i=>fnT (kid i) ρ)+0≠k+1:=by omega
    simp only[X7,if_false,WJ this];split<;>rfl
   . simp
theorem Ml (kid:Nat->ExT)(ρ:Nat->Bool):∀ k,accT 6 kid k ρ=decide (0<cntT k (fun i=>fnT (kid i) ρ))
 | 0=>rfl
 | k+1=>by
   have h1:accT 6 kid (k+1) ρ=iteB (accT 6 kid k ρ) true (fnT (kid k) ρ):=rfl;rw[h1,Ml kid ρ k,Em];unfold iteB;cases hf:fnT (kid k) ρ<;>simp
theorem Mm (kid:Nat->ExT)(ρ:Nat->Bool):∀ k,accT 7 kid k ρ=decide (cntT k (fun i=>fnT (kid i) ρ)%2=1)
 | 0=>rfl
 | k+1=>by
   have h1:accT 7 kid (k+1) ρ=iteB (accT 7 kid k ρ) (!(fnT (kid k) ρ)) (fnT (kid k) ρ):=rfl;rw[h1,Mm kid ρ k,Em];unfold iteB;rcases WL (cntT k fun i=>fnT (kid i) ρ) with e|e
   . cases hf:fnT (kid k) ρ<;>simp[e]<;>omega
   . cases hf:fnT (kid k) ρ<;>simp[e]<;>omega
theorem S7 (h:op=5\/op=6\/op=7)(v:Int)(n:Nat)(kid:Nat->ExT):fnT (.mk op v n kid)=accT op kid n:=by
 funext ρ;rcases h with rfl|rfl|rfl
 . rw[Mk];rfl
 . rw[Ml];rfl
 . rw[Mm];rfl
theorem Mn (f:Nat->Bool):cntT 1 f=if f 0 then 1 else 0:=by rw[Em];exact VW _
theorem S8 (f:Nat->Bool):cntT 2 f=(if f 0 then 1 else 0)+(if f 1 then 1 else 0):=by rw[Em,Mn]
theorem S9 (v:Int)(kid:Nat->ExT):fnT (.mk 4 v 1 kid)=notF (fnT (kid 0)):=by
 funext ρ
 show decide (cntT 1 (fun i=>fnT (kid i) ρ)=0) = !(fnT (kid 0) ρ)
 rw[Bool.eq_iff_iff,decide_eq_true_iff,Mn];cases fnT (kid 0) ρ<;>simp
theorem SA (v:Int)(kid:Nat->ExT):fnT (.mk 10 v 3 kid)=Bc (fnT (kid 0)) (fnT (kid 1)) (fnT (kid 2)):=rfl
theorem SB (h:op=8\/op=9)(v:Int)(kid:Nat->ExT):fnT (.mk op v 2 kid)=Dw op (fnT (kid 0)) (fnT (kid 1)):=by
 funext ρ;rcases h with rfl|rfl
 ·show (!fnT (kid 0) ρ||fnT (kid 1) ρ)=iteB (fnT (kid 0) ρ) (fnT (kid 1) ρ) true
  unfold iteB;cases fnT (kid 0) ρ<;>simp
 ·show decide (cntT 2 (fun i=>fnT (kid i) ρ)≠1)=iteB (fnT (kid 0) ρ) (fnT (kid 1) ρ) (!fnT (kid 1) ρ)
  rw[Bool.eq_iff_iff,decide_eq_true_iff,S8];unfold iteB;cases fnT (kid 0) ρ<;>cases fnT (kid 1) ρ<;>simp
theorem Mo (h:op=1\/op=2)(v:Int)(n:Nat)(kid:Nat->ExT):fnT (.mk op v n kid)=fun _=>decide (op=1):=by
 rcases h with rfl|rfl<;>rfl
theorem SC (v:Nat)(n:Nat)(kid:Nat->ExT):fnT (.mk 3 v n kid)=varF v:=by
 funext ρ;rfl
def DepF (n:Nat)(F:BF):Prop:=∀ ρ ρ':Nat->Bool,(∀ i,i<n->ρ i=ρ' i)->F ρ=F ρ'
theorem Mp {f:Nat->List Int}{i:Nat}{x:Int}:∀ {n:Nat},i<n->x∈f i->x∈BT n f
 | 0,h,_=>by omega
 | k+1,h,hx=>by
   unfold BT;rcases VE i k with h'|h'
   . exact Wx _ (Mp h' hx)
   ·obtain rfl:i=k:=by omega
    exact WY _ hx
abbrev XT:=@Nat.div_eq_of_lt
theorem SD (n:Nat)(ρ:Nat->Bool):∃ i,i<2^n/\∀ v,v<n->bitB i v=ρ v:=by
 induction n with
 | zero=>exact⟨0,by simp,fun v hv=>by omega⟩
 | succ n ih =>
   obtain⟨i,hi,hb⟩:=ih;have hp:0<2^n:=Xe (by omega);refine⟨i+(if ρ n then 2^n else 0),by rw[WZ];split<;>omega,fun v hv=>?_⟩;rcases VE v n with h|h
   ·rw[<- hb v h];unfold bitB;split
    ·obtain⟨k,rfl⟩:∃ k,n=v+(k+1):=⟨n-v-1,by omega⟩;have e1:(2:Nat)^(v+(k+1))=2^v*(2*2^k):=by rw[Nat.pow_add,WZ];ac_rfl
     rw[e1,Nat.add_mul_div_left _ _ (Xe (by omega)),Nat.add_mul_mod_self_left]
    . rw[XA]
   ·obtain rfl:v=n:=by omega
    unfold bitB;cases hr:ρ v with
    | true =>
      rw[Vw rfl,Nat.add_div_right _ hp,XT hi];rfl
    | false =>
      rw[Vs (by simp),XA,XT hi];rfl
theorem IK (hF:DepF n F)(hG:DepF n G)(h:tabB n F=tabB n G):F=G:=by
 funext ρ;obtain⟨i,hi,hb⟩:=SD n ρ;have e:∀ v,v<n->ρ v=AF (AP i n) v:=fun v hv=>by rw[Iz,hb v hv];simp[hv]
 rw[hF ρ _ e,hG ρ _ e,<- EN (F:=F) hi,<- EN (F:=G) hi,h]
theorem SE {f:Nat->Nat}(h1:∀ i,i<n->f i<n)(h2:∀ i j,i<n->j<n->f i=f j->i=j)(hj:j<n):∃ i,i<n/\f i=j:=by
 by_cases h:∃ i,i<n/\f i=j
 . exact h
 exfalso;have g0:∀ i,i<n->f i≠j:=fun i hi e=>h ⟨i,hi,e⟩
 have g1:(j::(List.range n).map f).Nodup:=by
  refine X0.2 ⟨?_,?_⟩
  . intro hm;obtain⟨i,hi,e⟩:=VD.1 hm;exact g0 i (Xs.1 hi) e
  . refine Xv.2 (List.nodup_range.imp_of_mem ?_);intro a b ha hb g2 e;exact g2 (h2 a b (Xs.1 ha) (Xs.1 hb) e)
 have:=Ek n _ g1 (fun x hx=>by
  rcases Wj.1 hx with rfl|hx
  . exact hj
  . obtain⟨i,hi,rfl⟩:=VD.1 hx;exact h1 i (Xs.1 hi))
 simp at this;omega
theorem Mq {zs:List Int}{v:Int}{p:Nat}(h:at0 zs p=v)(hu:∀ i,i<zs.length->at0 zs i=v->i=p):∀ k,k<=zs.length->cntP zs v k=if p<k then 1 else 0
 | 0,_=>by simp[cntP]
 | k+1,hk=>by
   have ih:=Mq h hu k (by omega)
   by_cases e:at0 zs k=v
   . have:=hu k (by omega) e;subst this;rw[DH (by omega) e,ih];simp
   ·rw[I2 (by omega) e,ih];have:p≠k:=fun e2=>e (by rw[<- e2];exact h)
    by_cases h3:p<k
    . rw[Vw h3,Vw (by omega)]
    . rw[Vs h3,Vs (by omega)]
theorem EY {zs:List Int}{v:Int}{i:Nat}:∀ {j:Nat},i<=j->j<=zs.length->cntP zs v i<=cntP zs v j
 | 0,h,_=>by
   obtain rfl:i=0:=by omega
   exact Vu _
 | j+1,h,hj=>by
   rcases VE i (j+1) with h'|h'
   ·have:=EY (zs:=zs) (v:=v) (show i<=j by omega) (by omega)
    by_cases e:at0 zs j=v
    . rw[DH (by omega) e];omega
    . rw[I2 (by omega) e];omega
   ·obtain rfl:i=j+1:=by omega
    exact Vu _
theorem SF (hl:zs.length=n)(h:∀ v:Nat,v<n->∃ p,p<n/\at0 zs p=(v:Nat))(hu:∀ i j,i<n->j<n->at0 zs i=at0 zs j->i=j):B7 zs n=true:=by
 subst hl;unfold B7;rw[WH];refine⟨rfl,fun v hv=>?_⟩;obtain⟨p,hp,e⟩:=h v hv;rw[Mq e (fun i hi e2=>hu i p hi hp (e2.trans e.symm)) _ (Vu _),Vw hp]
structure Gf (zs:List Int)(n:Nat):Prop where
 len:zs.length=n
 lt:∀ i,i<n->∃ v:Nat,v<n/\at0 zs i=(v:Nat)
 inj:∀ i j,i<n->j<n->at0 zs i=at0 zs j->i=j
theorem Gg (h:B7 zs n=true):Gf zs n:=by
 unfold B7 at h;rw[WH] at h;obtain⟨h1,h2⟩:=h;have g2:zs.length=n:=by omega
 subst g2;have hp:∀ v:Nat,v<zs.length->∃ p,p<zs.length/\at0 zs p=(v:Nat):=by
  intro v hv;have e:=h2 v hv;unfold cntP at e;rw[Wb] at e;have hm:0<(zs.filter (fun z=>decide (z=(v:Int)))).length:=by omega
  obtain⟨z,hz⟩:=List.length_pos_iff_exists_mem.1 hm;obtain⟨q1,q2⟩:=WO.1 hz;obtain⟨i,hi,e2⟩:=WW q1;refine⟨i,hi,?_⟩;rw[As hi,e2];simpa using q2
 have g0:∀ i,i<zs.length->∃ v,v<zs.length/\at0 zs i=(v:Nat):=by
  have hc:∃ f:Nat->Nat,∀ v,v<zs.length->f v<zs.length/\at0 zs (f v)=(v:Nat):=by
   refine⟨fun v=>if hv:v<zs.length then Classical.choose (hp v hv) else 0,fun v hv=>?_⟩;dsimp only;rw[dif_pos hv];exact Yj (hp v hv)
  obtain⟨f,hf⟩:=hc;intro i hi
  obtain⟨v,hv,e⟩:=SE (n:=zs.length) (f:=f) (fun v hv=>(hf v hv).1) (fun a b ha hb e=>by
   have e1:=(hf a ha).2;have e2:=(hf b hb).2;rw[e,e2] at e1;omega) hi
  exact⟨v,hv,by rw[<- e];exact(hf v hv).2⟩
 refine⟨rfl,g0,fun i j hi hj e=>?_⟩;obtain⟨v,hv,ei⟩:=g0 i hi;have ec:=h2 v hv;have ej:at0 zs j=(v:Nat):=by rw[<- e];exact ei
 rcases Xz i j with g1|rfl|g1
 . have a1:=DH hi ei;have a2:=DH hj ej;have a3:=EY (zs:=zs) (v:=(v:Nat)) (show i+1<=j by omega) (by omega);have a4:=EY (zs:=zs) (v:=(v:Nat)) (show j+1<=zs.length by omega) (Vu _);omega
 . rfl
 . have a1:=DH hi ei;have a2:=DH hj ej;have a3:=EY (zs:=zs) (v:=(v:Nat)) (show j+1<=i by omega) (by omega);have a4:=EY (zs:=zs) (v:=(v:Nat)) (show i+1<=zs.length by omega) (Vu _);omega
theorem Dc {l:List Nat}(hi:i<l.length):at0 (l.map Int.ofNat) i=(l.getD i 0:Nat):=by
 rw[As (by simpa using hi)];simp[List.getD,hi]
theorem Ak.mem (h:Ak d V){v:Nat}(hv:v<d.vars.length):∃ i,i<d.vars.length/\d.vars.getD i 0=v:=⟨levN d v,h.dag.lt v hv,h.inv v hv⟩
theorem Ak.inj (h:Ak d V)(hi:i<d.vars.length)(hj:j<d.vars.length)(e:d.vars.getD i 0=d.vars.getD j 0):i=j:=by
 have a:=(h.vlt i hi).2;have b:=(h.vlt j hj).2;rw[e,b] at a;exact a.symm
theorem Ak.permB (h:Ak d V):Go.Proofs.YtkidaindpahefaaGreat.B7 (d.vars.map Int.ofNat) d.vars.length=true:=by
 refine SF (by simp) (fun v hv=>?_) (fun i j hi hj e=>?_)
 . obtain⟨i,hi,e⟩:=h.mem hv;exact⟨i,hi,by rw[Dc hi,e]⟩
 . rw[Dc hi,Dc hj] at e;exact h.inj hi hj (by omega)
def exL (l:List Nat)(k:Nat):List Nat:=(l.set k (l.getD (k+1) 0)).set (k+1) (l.getD k 0)
theorem Mr (l:List Nat)(k:Nat):(exL l k).length=l.length:=by simp[exL]
theorem Ms {l:List Nat}(h:k+1<l.length):(exL l k).getD k 0=l.getD (k+1) 0:=by
 unfold exL;simp[List.getD,VY,h,show k<l.length by omega]
theorem SG {l:List Nat}(h:k+1<l.length):(exL l k).getD (k+1) 0=l.getD k 0:=by
 unfold exL;simp[List.getD,VY,h]
theorem Mt {l:List Nat}(h1:i≠k)(h2:i≠k+1):(exL l k).getD i 0=l.getD i 0:=by
 unfold exL;simp only[List.getD,VY];rw[Vs (fun e=>h2 e.symm),Vs (fun e=>h1 e.symm)]
theorem Mu (d:Ae)(k:Nat):(Bd d k).vars=exL d.vars k:=rfl
structure LawT (K:Law)(n:Nat)(Od:List Nat->Prop)(room:Nat)(w0:Wd)(mb:Nat)(fs:List (Int×BF))(nx:Int)(Wt:List Ev->Int->Prop)(hl hx:List (Int×BF))(W:Wd)(o:Own)(m:ManD)(V:Nat->BF)(vl vx:Value):Prop where
 sat:SatE K n Od room w0 mb fs nx W o m V
 b2:B2 fs
 st:Wt m.waits m.calls
 l:LawL W o w0.heap.size vl (hl.map Prod.fst)
 x:LawX W o w0.heap.size vx (hx.map fun p=>tabB n p.2)
section
variable {Wt:List Ev->Int->Prop}{hl hx:List (Int×BF)}{o:Own}{p:Int×BF}
theorem LawT.below (h:LawT K n Od room w0 mb fs nx Wt hl hx W o m V vl vx)(hb:Bw W W'):LawT K n Od room w0 mb fs nx Wt hl hx W' o m V vl vx :=
 ⟨h.sat.below hb,h.b2,h.st,h.l.chg (CJ hb o),h.x.chg (CJ hb o)⟩
theorem LawT.below0 (h:LawT K n Od room w0 mb fs nx Wt hl hx W o m V vl vx):Bw w0 W:=h.sat.chg.below0
theorem LawT.go {Od':List Nat->Prop}{Wt':List Ev->Int->Prop}(h:LawT K n Od room w0 mb fs nx Wt hl hx W o m V vl vx)(hs:SatE K n Od' room w0 mb fs' nx' W' o' m' V')(hb:B2 fs')(ht:Wt' m'.waits m'.calls)(hc:ChgX NoB o o' W W') :
 LawT K n Od' room w0 mb fs' nx' Wt' hl hx W' o' m' V' vl vx:=⟨hs,hb,ht,h.l.chg hc,h.x.chg hc⟩
theorem LawT.withOd {Od':List Nat->Prop}(h:LawT K n Od room w0 mb fs nx Wt hl hx W o m V vl vx)(hO:Od' m.d.vars):LawT K n Od' room w0 mb fs nx Wt hl hx W o m V vl vx:=⟨h.sat.withOd hO,h.b2,h.st,h.l,h.x⟩
theorem LawT.withSt {Wt':List Ev->Int->Prop}(h:LawT K n Od room w0 mb fs nx Wt hl hx W o m V vl vx)(hO:Wt' m.waits m.calls):LawT K n Od room w0 mb fs nx Wt' hl hx W o m V vl vx:=⟨h.sat,h.b2,hO,h.l,h.x⟩
theorem LawT.appL (h:LawT K n Od room w0 mb fs nx Wt hl hx W o m V vl vx)(hown:OwnC 3 W' w0.heap.size v' (Au (hl.map Prod.fst)++[Iv p.1]))(e1:W'.os=W.os)(e2:W'.tape=W.tape)(e3:W'.output=W.output)(e4:W.heap.size<=W'.heap.size)(hk:BA vl v' W W') :
 LawT K n Od room w0 mb fs nx Wt (hl++[p]) hx W' o m V v' vx:=by
 have hw:=EO e1 e2 e3 e4 hk;refine⟨h.sat.other hw (fun k _ hk=>⟨(h.l.own.lt k hk).1,h.l.no k hk⟩),h.b2,h.st,?_,h.x.typ hw (by decide) (by decide) h.l.own.typed⟩;rw[VU];exact h.l.app h.sat.lt hown hk
theorem LawT.appX (h:LawT K n Od room w0 mb fs nx Wt hl hx W o m V vl vx)(hb:LawB W o w0.heap.size v bs)(hbs:bs=tabB n p.2)(hrs:rs.length=hx.length)(hrow:OwnC 90 W w0.heap.size vx rs)(hall:∀ i v,rs[i]?=some v->LawB W o w0.heap.size v ((hx.map fun p=>tabB n p.2).getD i []))
 (hown:OwnC 90 W' w0.heap.size v' (rs++[v])) (e1:W'.os=W.os) (e2:W'.tape=W.tape) (e3:W'.output=W.output) (e4:W.heap.size<=W'.heap.size) (hk:BA vx v' W W'):LawT K n Od room w0 mb fs nx Wt hl (hx++[p]) W' o m V vl v':=by
 have hw:=EO e1 e2 e3 e4 hk;refine⟨h.sat.other hw (fun k _ hk=>⟨(hrow.lt k hk).1,h.x.no k hk⟩),h.b2,h.st,h.l.typ hw (by decide) hrow.typed,?_⟩;rw[VU];have:=h.x.app h.sat.lt (by simp[hrs]) hall hw hrow.typed hb hown hk;rw[hbs] at this;exact this
end
theorem SH (n:Nat)(F:BF):(tabB n F).map (fun b => !b)=tabB n (notF F):=by
 unfold tabB;rw[Xa];rfl
def TabA (n:Nat)(W:Wd)(v:Value)(F:BF):Prop:=∃ a c,v=.slice a (2^n) c/\Cd W a (tabB n F)
theorem TabA.below {n:Nat}{W W':Wd}{v:Value}{F:BF}(h:TabA n W v F)(hb:Bw W W'):TabA n W' v F:=by
 obtain⟨a,c,e,h1⟩:=h;exact⟨a,c,e,h1.below hb⟩
theorem TabA.is (h:B6 W v (tabB n F)):TabA n W v F:=by
 obtain⟨a,c,e,h1,_⟩:=h;rw[CA] at e;exact⟨a,c,e,h1⟩
section
variable {x y:Value}
def RefT (n:Nat)(F:BF)(w:Wd)(e:Ending)(w':Wd):Prop:=∃ v,e=.returned v/\B6 w' v (tabB n F)/\Bw w w'
end
theorem EZ (W:Wd)(zs:List Int)(hl:zs.length<=1000000):Ar (W.alloc (.cells (Au zs).toArray 3)) (some (Av W.heap.size)) zs :=
 ⟨by omega,fun k hk=>⟨W.heap.size,0,rfl,by
  rw[VW,Vt _ _ k _ _ _ (Vv _ _)];simp[Au,As hk,hk]⟩⟩
section
variable {o:Own}
def Goes (K:Law)(n:Nat)(Od:List Nat->Prop)(room:Nat)(w0:Wd)(mb:Nat)(fs:List (Int×BF))(nx:Int)(Wt:List Ev->Int->Nat->Prop)(o:Own)(w w':Wd):Prop :=
 ∃ o' m' V',ChgX NoB o o' w w'/\Wt m'.waits m'.calls m'.d.pool.many/\SatE K n Od room w0 mb fs nx w' o' m' V'
def NoW (M:Nat)(ws:List Ev)(_:Int)(k:Nat):Prop:=ws=[]/\k<=M
abbrev W2 (Wt:List Ev->Int->Prop):List Ev->Int->Nat->Prop:=fun ws c _=>Wt ws c
theorem Goes.more {M M':Nat}(h:Goes K n Od room w0 mb fs nx (NoW M) o w w')(hm:M<=M'):Goes K n Od room w0 mb fs nx (NoW M') o w w':=by
 obtain⟨o',m',V',h1,h2,h3⟩:=h;exact⟨o',m',V',h1,⟨h2.1,Vy h2.2 hm⟩,h3⟩
theorem Goes.below {Wt:List Ev->Int->Nat->Prop}{w'':Wd}(h:Goes K n Od room w0 mb fs nx Wt o w w')(hb:Bw w' w''):Goes K n Od room w0 mb fs nx Wt o w w'':=by
 obtain⟨o',m',V',h1,h2,h3⟩:=h;exact⟨o',m',V',h1.trans (CJ hb o') (fun _ _ e=>e),h2,h3.below hb⟩
theorem IL (hK:AO K){M:Nat}(h:Goes K n Od room w0 mb fs nx (NoW M) o w w')(hn:nx<549755813888)(hr:M+(2^n-1)<=room)(hf:(kf,F)∈fs)(hg:(kg,G)∈fs)(hh:(kh,H)∈fs) :
 Cl 94 #[Pt mb,Iv kf,Iv kg,Iv kh] w' fun x w''=>x=.returned (.tuple #[Iv nx,Iv 0])/\Goes K n Od room w0 mb (fs++[(nx,Bc F G H)]) (nx+1) (NoW (M+(2^n-1))) o w w'':=by
 obtain⟨o',m',V',h1,h2,h3⟩:=h;refine(Le hK h3 [] (by rw[h2.1];exact List.suffix_refl _) (some M) (fun _ e=>by cases e;exact⟨rfl,hr⟩) (fun _ e=>by cases e;exact h2.2) (by simp) (by omega) hf hg hh).mono ?_;rintro x w'' hp;obtain⟨o2,m2,V2,q1,q2,q3,q4⟩:=Mi hp;exact⟨q3,o2,m2,V2,h1.trans q1 (fun _ _ e=>e),q2,q4⟩
theorem SI (hK:AO K){M:Nat}(h:Goes K n Od room w0 mb fs nx (NoW M) o w w')(hn:nx<549755813888)(hr:M+1<=room){v:Nat}(hv:v<n) :
 Cl 93 #[Pt mb,Iv v] w' fun x w''=>x=.returned (.tuple #[Iv nx,Iv 0])/\Goes K n Od room w0 mb (fs++[(nx,varF v)]) (nx+1) (NoW (M+1)) o w w'':=by
 obtain⟨o',m',V',h1,h2,h3⟩:=h;refine(Lf hK h3 [] (by rw[h2.1];exact List.suffix_refl _) (some M) (fun _ e=>by cases e;exact⟨rfl,hr⟩) (fun _ e=>by cases e;exact h2.2) (by simp) (by omega) v hv).mono ?_;rintro x w'' hp;obtain⟨o2,m2,V2,q1,q2,q3,q4⟩:=Mi hp;exact⟨q3,o2,m2,V2,h1.trans q1 (fun _ _ e=>e),q2,q4⟩
theorem Mv (hK:AO K){Wt:List Ev->Int->Nat->Prop}(h:Goes K n Od room w0 mb fs nx Wt o w w')(hn:nx<549755813888){k:Int}(hf:(k,F)∈fs) :
 Cl 117 #[Pt mb,Iv k] w' fun x w''=>x=.returned (.tuple #[Iv nx,Iv 0])/\Goes K n Od room w0 mb (fs++[(nx,notF F)]) (nx+1) Wt o w w'':=by
 obtain⟨o',m',V',h1,h2,h3⟩:=h;refine(Sy hK h3 hn hf).mono ?_;rintro x w'' ⟨rfl,o2,m2,q⟩;exact⟨rfl,o2,m2,V',h1.trans (ChgX.of_chg q.chg NoB) (fun _ _ e=>e),by rw[q.waits,q.calls,q.many];exact h2,q.sat⟩
theorem Gh (hK:AO K){Wt:List Ev->Int->Nat->Prop}(h:Goes K n Od room w0 mb fs nx Wt o w w')(hn:nx<549755813888){k:Int}(hf:(k,F)∈fs) :
 Cl 114 #[Pt mb,Iv k] w' fun x w''=>x=.returned (.tuple #[Iv nx,Iv 0])/\Goes K n Od room w0 mb (fs++[(nx,F)]) (nx+1) Wt o w w'':=by
 obtain⟨o',m',V',h1,h2,h3⟩:=h;refine(Sw hK h3 hn hf).mono ?_;rintro x w'' ⟨rfl,o2,m2,q⟩;exact⟨rfl,o2,m2,V',h1.trans (ChgX.of_chg q.chg NoB) (fun _ _ e=>e),by rw[q.waits,q.calls,q.many];exact h2,q.sat⟩
theorem Gi (hK:AO K){Wt:List Ev->Int->Nat->Prop}(h:Goes K n Od room w0 mb (fs++(hs++r)) nx Wt o w w')(hb:B2 fs)(hn:nx<549755813888)(hl:hs.length<=1000){T:Wd}(hT:T=w'.alloc (.cells (Au (hs.map Prod.fst)).toArray 3)) :
 Cl 118 #[Pt mb,.slice (some (Av w'.heap.size)) hs.length hs.length] T fun x w''=>x=.returned (Iv 0)/\Goes K n Od room w0 mb (fs++r) nx Wt o w w'':=by
 obtain⟨o',m',V',h1,h2,h3⟩:=h;subst hT;have g0:=Ah w' (.cells (Au (hs.map Prod.fst)).toArray 3);refine(S6 hK (h3.below g0) hb hn (EZ w' (hs.map Prod.fst) (by simp;omega)) (fun x hx=>by cases hx;exact h3.lt.none (Vu _))).mono ?_;rintro x w'' ⟨rfl,o2,m2,q⟩;exact⟨rfl,o2,m2,V',(h1.trans (CJ g0 o') (fun _ _ e=>e)).trans (ChgX.of_chg q.chg NoB) (fun _ _ e=>e),by rw[q.waits,q.calls,q.many];exact h2,q.sat⟩
theorem Mw (hK:AO K){a b:Int}{M:Nat}(h:Goes K n Od room w0 mb (fs++[(a,F),(b,G)]) nx (NoW M) o w w')(hb:B2 fs)(hn:nx+2<549755813888)(hr:M+(2^n-1)<=room)(h5:5<=op)(h9:op<=9) :
 Cl 116 #[Pt mb,Iv op,Iv a,Iv b] w' fun x w''=>∃ k:Int,x=.returned (.tuple #[Iv k,.bool true])/\k<=nx+1/\Goes K n Od room w0 mb (fs++[(k,Dw op F G)]) (k+1) (NoW (M+(2^n-1))) o w w'':=by
 obtain⟨M',ga⟩:=Ex (M+(2^n-1));have g5:Hq (∀ c d e A B C,(c,A)∈fs++[(a,F),(b,G)]->(d,B)∈fs++[(a,F),(b,G)]->(e,C)∈fs++[(a,F),(b,G)]->Cl 94 #[Pt mb,Iv c,Iv d,Iv e] w' fun x w''=>x=.returned (.tuple #[Iv nx,Iv 0])/\Goes K n Od room w0 mb (fs++[(a,F),(b,G)]++[(nx,Bc A B C)]) (nx+1) (NoW (M+(2^n-1))) o w w'') :=
  Hd fun c d e A B C h1 h2 h3=>IL hK h (by omega) hr h1 h2 h3
 have g6:=Hd (Mv hK h (by omega) (k:=b) (F:=G) (by simp))
 have g0:Hq (∀ W,Goes K n Od room w0 mb (fs++[(a,F),(b,G)]++[(nx,notF G)]) (nx+1) (NoW M) o w W->∀ c d e A B C,(c,A)∈fs++[(a,F),(b,G)]++[(nx,notF G)]->(d,B)∈fs++[(a,F),(b,G)]++[(nx,notF G)]->(e,C)∈fs++[(a,F),(b,G)]++[(nx,notF G)] ->
  Cl 94 #[Pt mb,Iv c,Iv d,Iv e] W fun x w''=>x=.returned (.tuple #[Iv (nx+1),Iv 0])/\Goes K n Od room w0 mb (fs++[(a,F),(b,G)]++[(nx,notF G)]++[(nx+1,Bc A B C)]) (nx+1+1) (NoW (M+(2^n-1))) o w w'') :=
  Hd fun W hW c d e A B C h1 h2 h3=>IL hK hW (by omega) hr h1 h2 h3
 have g7:Hq (∀ W H T,Goes K n Od room w0 mb (fs++[(a,F),(b,G)]++[(nx,notF G)]++[(nx+1,H)]) (nx+1+1) (NoW M') o w W->T=W.alloc (.cells #[Iv nx] 3)->Cl 118 #[Pt mb,.slice (some (Av W.heap.size)) 1 1] T fun x w''=>x=.returned (Iv 0)/\Goes K n Od room w0 mb (fs++[(a,F),(b,G)]++[(nx+1,H)]) (nx+1+1) (NoW M') o w w'') :=
  Hd fun W H T hW hT=>Gi hK (hs:=[(nx,notF G)]) (r:=[(nx+1,H)]) (by rw[VH] at hW;exact hW) (hb.app _) (by omega) (by simp) hT
 have g8:Hq (∀ W k H T,k+1<549755813888->Goes K n Od room w0 mb (fs++[(a,F),(b,G)]++[(k,H)]) (k+1) (NoW M') o w W->T=W.alloc (.cells #[Iv a,Iv b] 3)->Cl 118 #[Pt mb,.slice (some (Av W.heap.size)) 2 2] T fun x w''=>x=.returned (Iv 0)/\Goes K n Od room w0 mb (fs++[(k,H)]) (k+1) (NoW M') o w w'') :=
  Hd fun W k H T hk hW hT=>Gi hK (hs:=[(a,F),(b,G)]) (r:=[(k,H)]) (by rw[VH] at hW;exact hW) hb (by omega) (by simp) hT
 have m0:(0,fun _=>false)∈fs++[(a,F),(b,G)]:=Wx _ hb.zero;have m1:(1,fun _=>true)∈fs++[(a,F),(b,G)]:=Wx _ hb.one;have ma:(a,F)∈fs++[(a,F),(b,G)]:=by simp
 have mb':(b,G)∈fs++[(a,F),(b,G)]:=by simp
 have pa:(a,F)∈fs++[(a,F),(b,G)]++[(nx,notF G)]:=by simp
 have pb:(b,G)∈fs++[(a,F),(b,G)]++[(nx,notF G)]:=by simp
 have pn:(nx,notF G)∈fs++[(a,F),(b,G)]++[(nx,notF G)]:=by simp
 rw[<- ga] at g5 g0 ⊢;clear h hb hr hK ga;rcases(show op=5\/op=6\/op=7\/op=8\/op=9 by omega) with rfl|rfl|rfl|rfl|rfl
 ·have HI:=Hd (g5.o a b 0 _ _ _ ma mb' m0);clear g5 g0 g6 g7
  go_enter func116,ntmps116
  go_wp2_with fail;refine HI.o.mono ?_;rintro x w1 ⟨rfl,g1⟩;have HD:=Hd (g8.o w1 nx _ _ (by omega) g1 rfl);clear g1 HI;go_wp2_with fail;refine HD.o.mono ?_;rintro x w2 ⟨rfl,g2⟩;have HG:=Hd g2;clear g2 HD;go_wp2_with fail
  go_ret2
  exact⟨nx,rfl,by omega,HG.o⟩
 ·have HI:=Hd (g5.o a 1 b _ _ _ ma m1 mb');clear g5 g0 g6 g7
  go_enter func116,ntmps116
  go_wp2_with fail;refine HI.o.mono ?_;rintro x w1 ⟨rfl,g1⟩;have HD:=Hd (g8.o w1 nx _ _ (by omega) g1 rfl);clear g1 HI;go_wp2_with fail;refine HD.o.mono ?_;rintro x w2 ⟨rfl,g2⟩;have HG:=Hd g2;clear g2 HD;go_wp2_with fail
  go_ret2
  exact⟨nx,rfl,by omega,HG.o⟩
 ·clear g5
  go_enter func116,ntmps116
  go_wp2_with fail;refine g6.o.mono ?_;rintro x w1 ⟨rfl,g1⟩;have HI:=Hd (g0.o w1 g1 a nx b _ _ _ pa pn pb);clear g1 g6 g0;go_wp2_with fail;refine HI.o.mono ?_;rintro x w2 ⟨rfl,g2⟩;have g9:=Hd (g7.o w2 _ _ g2 rfl);clear g2 HI g7;go_wp2_with fail;refine g9.o.mono ?_;rintro x w3 ⟨rfl,g3⟩;have HD:=Hd (g8.o w3 (nx+1) _ _ (by omega) g3 rfl);clear g3 g9;go_wp2_with fail;refine HD.o.mono ?_;rintro x w4 ⟨rfl,g4⟩;have HG:=Hd g4;clear g4 HD;go_wp2_with fail
  go_ret2
  exact⟨nx+1,rfl,by omega,HG.o⟩
 ·have HI:=Hd (g5.o a b 1 _ _ _ ma mb' m1);clear g5 g0 g6 g7
  go_enter func116,ntmps116
  go_wp2_with fail;refine HI.o.mono ?_;rintro x w1 ⟨rfl,g1⟩;have HD:=Hd (g8.o w1 nx _ _ (by omega) g1 rfl);clear g1 HI;go_wp2_with fail;refine HD.o.mono ?_;rintro x w2 ⟨rfl,g2⟩;have HG:=Hd g2;clear g2 HD;go_wp2_with fail
  go_ret2
  exact⟨nx,rfl,by omega,HG.o⟩
 ·clear g5
  go_enter func116,ntmps116
  go_wp2_with fail;refine g6.o.mono ?_;rintro x w1 ⟨rfl,g1⟩;have HI:=Hd (g0.o w1 g1 a b nx _ _ _ pa pb pn);clear g1 g6 g0;go_wp2_with fail;refine HI.o.mono ?_;rintro x w2 ⟨rfl,g2⟩;have g9:=Hd (g7.o w2 _ _ g2 rfl);clear g2 HI g7;go_wp2_with fail;refine g9.o.mono ?_;rintro x w3 ⟨rfl,g3⟩;have HD:=Hd (g8.o w3 (nx+1) _ _ (by omega) g3 rfl);clear g3 g9;go_wp2_with fail;refine HD.o.mono ?_;rintro x w4 ⟨rfl,g4⟩;have HG:=Hd g4;clear g4 HD;go_wp2_with fail
  go_ret2
  exact⟨nx+1,rfl,by omega,HG.o⟩
end
theorem Mx (h:0<=(Bg op).1):1<=op/\op<=10/\(Bg op).2<=64:=by
 unfold Bg at h ⊢;split
 . rename_i h1;exact⟨by omega,by omega,by simp⟩
 ·split
  . rename_i h1;exact⟨by omega,by omega,by simp⟩
  ·split
   . rename_i h1;exact⟨by omega,by omega,by simp⟩
   ·split
    . rename_i h1;exact⟨by omega,by omega,by simp⟩
    ·split
     . rename_i h1;exact⟨by omega,by omega,by simp⟩
     . exfalso;revert h;simp_all
theorem My (f:Nat->Bool)(i:Nat):(List.range (i+1)).map f=(List.range i).map f++[f i]:=by simp[XM]
theorem IM (l:List Bool)(b:Bool):AL (l++[b])=AL l++[.bool b]:=by simp[AL]
theorem tmod2 (c:Nat):((c:Int).tmod 2 == 1)=decide (c%2=1):=by
 have e1:Int.tmod (c:Int) 2=((c%2:Nat):Int):=by rw[X6 (by omega)];rfl
 rw[e1]
 by_cases h:c%2=1
 . rw[h];rfl
 ·have:((c%2:Nat):Int)≠1:=by omega
  rw[WT.2 this,WJ h]
theorem IN (a b:Nat):(((a:Nat):Int) == (b:Int))=decide (a=b):=by
 by_cases h:a=b
 . subst h;simp
 ·have:(a:Int)≠b:=by omega
  rw[WT.2 this,WJ h]
theorem Mz (ls:List Bool)(al:Option Addr)(cl:Nat):∀ (e:ExT) (x:Value) (w:Wd),FW e->A5 w e x->Cd w al ls ->
 Cl 119 #[x,.slice al ls.length cl] w (Bl (.bool (fnT e (AF ls))) w)
 | .nil,x,w,hv,h,_=>by unfold A5 at h;exact h.elim
 | .mk op v n kid,x,w,hval,h,hls=>by
   unfold A5 at h;obtain⟨a,c,rfl,h2,h3,h4,h5⟩:=h;obtain⟨v1,v2,v3,v4,v5,v6⟩:=hval;obtain⟨k1,k2,k3⟩:=Mx v1;have hn64:n<=64:=by omega
   have H5:=Hd h5;have H6:=Hd v6;have gq:=Hd hls;have gH:=hls.len;have HE:Hq (fnT (ExT.mk op v n kid) (AF ls)=if op=3 then AF ls v.toNat else opB op n fun i=>fnT (kid i) (AF ls)):=Hd rfl;have IH:Hq (∀ (i:Nat) (x:Value) (W:Wd),i<n->A5 W (kid i) x->Cd W al ls->Cl 119 #[x,.slice al ls.length cl] W (Bl (.bool (fnT (kid i) (AF ls))) W)) :=
    Hd fun i x W hi h1 h2=>Mz ls al cl (kid i) x W (H6.o i hi) h1 h2
   obtain⟨B,hB⟩:=Ex (fnT (ExT.mk op v n kid) (AF ls));obtain⟨f,hf⟩:=Ex (fun i=>fnT (kid i) (AF ls):Nat->Bool)
   have gG:Hq (∀ i,fnT (kid i) (AF ls)=f i):=Hd fun i=>by rw[hf]
   rw[<- hB] at HE ⊢;rw[<- hf] at HE;have gB:op=8\/op=9->n=2:=by rintro(rfl|rfl)<;>(simp[Bg] at v4 v5;omega)
   have gA:op=10->n=3:=by rintro rfl;simp[Bg] at v4 v5;omega
   have gI:op=4->n=1:=by rintro rfl;simp[Bg] at v4 v5;omega
   obtain⟨w1,ga⟩:=Ex (w.alloc (.cells #[Iv op,Iv v,.slice a n c] 79));have HW1:Hq (_=w1):=Hd ga.symm;have g5:Hq (Bw w w1):=by rw[ga];exact Hd (Ah _ _)
   have g6:w1.heap[w.heap.size]?=some (.cells #[Iv op,Iv v,.slice a n c] 79 (0,0)):=by rw[ga];exact Vv _ _
   have d0:w1.cell? (Av w.heap.size)=some (Iv op):=by rw[Vt _ _ 0 _ _ _ g6];rfl
   have d1:w1.cell? (Aw w.heap.size 1)=some (Iv v):=by rw[Vt _ _ 1 _ _ _ g6];rfl
   have d2:w1.cell? (Aw w.heap.size 2)=some (.slice a n c):=by rw[Vt _ _ 2 _ _ _ g6];rfl
   unfold okI at h2 h3;obtain⟨w2,gc⟩:=Ex (w1.alloc (.cells #[] 4));have gD:Hq (_=w2):=Hd gc.symm;have HB2:Hq (Bw w1 w2):=by rw[gc];exact Hd (Ah _ _)
   have gg:Hq (OwnB w2 w1.heap.size (.slice (some (Av w1.heap.size)) 0 0) []):=by rw[gc];exact Hd (DF _ _ _ (Vu _))
   have hs1:w1.heap.size=w.heap.size+1:=by rw[ga];simp
   rw[hs1] at gg;clear h5 ga gc g6 hf hB v1 v4 v5 v6 hls
   go_enter func119,ntmps119
   go_upto_region 1 with fail;rw[HW1.o];go_upto_region 3 with fail;rw[gD.o];have gy:w1.heap.size<=w2.heap.size:=HB2.o.size;have d0':=Cq HB2.o d0;have d1':=Cq HB2.o d1;have d2':=Cq HB2.o d2;go_wp2_with fail
   go_loopw [5,6,7,8] (fun s5 s6 s7 s8 wr=>∃ i k:Nat,i<=n/\k<=i/\s5=Iv k/\s7=Iv i/\Hq (k=cntT i f)/\Bw w1 wr/\OwnB wr w1.heap.size s6 ((List.range i).map f)/\w1.heap.size<=wr.heap.size) (fun _ _ s7 _ _=>n-(intOf s7).toNat)
   case atStart=>exact⟨0,0,VC _,Vu _,rfl,rfl,Hd rfl,HB2.o,by rw[hs1];exact gg.o,gy⟩
   case round =>
    obtain⟨i,k,hi,gJ,rfl,rfl,HK,g2,g0,gx⟩:=hrel;have e0:=Cq g2 d0;have e1:=Cq g2 d1;have e2:=Cq g2 d2;have g3:=Hd g2;have gE:=Hd g0;clear g2 d0' d1' d2'
    by_cases gz:i<n
    ·clear g0;obtain⟨b,off,x0,x1,x2,rfl,c0,c1,c2,hx⟩:=H5.o i gz;have g4:=g5.o.trans (g3.o.mono g5.o.size);have q0:=Cq g4 c0;have q1:=Cq g4 c1;have q2:=Cq g4 c2;have HX:=Hd (hx.below g4);have gF:=Hd (gq.o.below g4);have gC:(i:Int)<n:=by omega
     have gt:Hq (∀ y,f i=y->k+(if y then 1 else 0)=cntT (i+1) f):=Hd fun y hy=>by rw[<- hy,HK.o];rfl
     clear c0 c1 c2 hx g4;go_wp2_with fail;refine(IH.o i _ _ (by omega) HX.o gF.o).mono ?_;rintro y w3 ⟨rfl,go⟩;have gj:=Hd go;clear go;go_upto_region 7 with fail;rw[gG.o];obtain⟨y,hy⟩:∃ y,f i=y:=⟨_,rfl⟩;rw[hy];have gr:=Hd (gt.o y hy);have gi:=Hd (gE.o.below gj.o);have gf:w1.heap.size<=w3.heap.size:=Vy gx gj.o.size;have gk:=Hd (g3.o.trans (gj.o.mono g3.o.size));have gp:Hq (AL ((List.range (i+1)).map f)=AL ((List.range i).map f)++[.bool y]):=Hd (by rw[My,IM,hy]);clear gt hy q0 q1 q2 e0 e1 e2;go_upto_region 8 with (at_builtin;refine Cz Du _ rfl _ _ rfl w1.heap.size _ (AL ((List.range i).map f)) _ rfl rfl rfl rfl rfl (by exact gi.o) (by simp[AL];omega) gf ?_;intro v4 w4 gd q1 q2 q3 q4 gn)
     have gv:=Hd (EM gk.o gi.o q1 q2 q3 q4 gn gf);have gh:=Hd gd;have ge:w1.heap.size<=w4.heap.size:=by omega
     clear gd q1 q2 q3 q4 gn;cases y with
     | true =>
       go_wp2_with fail;go_roundw
       case rel=>exact⟨i+1,k+1,by omega,by omega,by go_num,by go_num,Hd gr.o,gv.o,by unfold OwnB;rw[gp.o];exact gh.o,ge⟩
       case measure=>simp[intOf];omega
     | false =>
       go_wp2_with fail;go_roundw
       case rel=>exact⟨i+1,k,by omega,by omega,by go_num,by go_num,Hd gr.o,gv.o,by unfold OwnB;rw[gp.o];exact gh.o,ge⟩
       case measure=>simp[intOf];omega
    ·have he:i=n:=by omega
     subst he;have gC:¬ (i:Int)<i:=by omega
     have HF:Hq (∀ b:Bool,b=B->Ending.returned (.bool b)=.returned (.bool B)/\Bw w wr):=Hd fun b hb=>⟨by rw[hb],g5.o.trans (g3.o.mono g5.o.size)⟩
     have g1:0<i->∃ g cap,u6=.slice (some (Av g)) i cap/\∀ j,j<i->wr.cell? (Aw g j)=some (.bool (f j)):=by
      intro hp;obtain⟨g,cap,e,_⟩:=g0.shape (by simp[AL];omega);have e':u6=.slice (some (Av g)) i cap:=by rw[e];simp[AL]
      refine⟨g,cap,e',fun j hj=>?_⟩;rw[e'] at g0;have:=g0.cellB j (by simp;omega);rw[this];simp[List.getD,hj]
     clear g0;rcases(show op=1\/op=2\/op=3\/op=4\/op=5\/op=6\/op=7\/op=8\/op=9\/op=10 by omega) with rfl|rfl|rfl|rfl|rfl|rfl|rfl|rfl|rfl|rfl
     . go_wp2_with fail;go_ret;exact HF.o _ (by rw[HE.o];rfl)
     . go_wp2_with fail;go_ret;exact HF.o _ (by rw[HE.o];rfl)
     ·obtain⟨v5,v6⟩:=v2 rfl;obtain⟨u,rfl⟩:∃ u:Nat,v=(u:Int):=⟨v.toNat,by omega⟩;have gu:Hq (B=AF ls u):=Hd (by rw[HE.o];rfl)
      by_cases hu:u<ls.length
      ·obtain⟨bl,ol,rfl,cl0⟩:=(gq.o.below (g5.o.trans (g3.o.mono g5.o.size))).cells u hu;have gw:(u:Int)<ls.length:=by omega
       have g7:Hq (B=ls.getD u false):=gu;obtain⟨yy,gl⟩:=Ex (ls.getD u false);rw[<- gl] at cl0 g7;clear gl;go_wp2_with fail;go_ret;exact HF.o _ g7.o.symm
      ·have gw:¬ (u:Int)<ls.length:=by omega
       have g7:Hq (B=false):=Hd (by rw[gu.o];unfold AF;simp[List.getD,VN (show ls.length<=u by omega)]);go_wp2_with fail;go_ret;exact HF.o _ g7.o.symm
     . have HV:Hq (((k:Int) == 0)=B):=Hd (by rw[HE.o,HK.o];exact IN _ 0);go_wp2_with fail;go_ret;exact HF.o _ HV.o
     . have HV:Hq (((k:Int) == (i:Int))=B):=Hd (by rw[HE.o,HK.o];exact IN _ i);go_wp2_with fail;go_ret;exact HF.o _ HV.o
     ·have HV:Hq (decide (0<k)=B):=Hd (by
       rw[HE.o,HK.o];rfl)
      go_wp2_with fail;go_ret;exact HF.o _ HV.o
     . have HV:Hq (((k:Int).tmod 2 == 1)=B):=Hd (by rw[HE.o,HK.o];exact tmod2 _);go_wp2_with fail;go_ret;exact HF.o _ HV.o
     ·have:=gB (.inl rfl);subst this;obtain⟨g,cap,rfl,hc⟩:=g1 (by omega);have c0:=hc 0 (by omega);have c1:=hc 1 (by omega);have HV:Hq ((!(f 0)||f 1)=B):=Hd (by rw[HE.o];rfl);obtain⟨y0,g9⟩:∃ y,y=f 0:=⟨_,rfl⟩;obtain⟨y1,g8⟩:∃ y,y=f 1:=⟨_,rfl⟩;rw[<- g9] at c0 HV;rw[<- g8] at c1 HV;clear g9 g8 hc g1;cases y0 with
      | true =>
        go_wp2_with fail;go_ret;exact HF.o _ HV.o
      | false =>
        go_wp2_with fail;go_ret;exact HF.o _ HV.o
     ·have HV:Hq (((k:Int) != 1)=B):=Hd (by
       rw[HE.o,HK.o]
       show (!((cntT i f:Int) == ((1:Nat):Int)))=decide (cntT i f≠1)
       rw[IN]
       by_cases h:cntT i f=1<;>simp[h])
      go_wp2_with fail;go_ret;exact HF.o _ HV.o
     ·have:=gA rfl;subst this;obtain⟨g,cap,rfl,hc⟩:=g1 (by omega);have c0:=hc 0 (by omega);have c1:=hc 1 (by omega);have c2:=hc 2 (by omega);have HV:Hq (iteB (f 0) (f 1) (f 2)=B):=Hd (by rw[HE.o];rfl);obtain⟨y0,g9⟩:∃ y,y=f 0:=⟨_,rfl⟩;obtain⟨y1,g8⟩:∃ y,y=f 1:=⟨_,rfl⟩;obtain⟨y2,gm⟩:∃ y,y=f 2:=⟨_,rfl⟩;rw[<- g9] at c0 HV;rw[<- g8] at c1 HV;rw[<- gm] at c2 HV;clear g9 g8 gm hc g1;cases y0 with
      | true =>
        go_wp2_with fail;go_ret;exact HF.o _ HV.o
      | false =>
        go_wp2_with fail;go_ret;exact HF.o _ HV.o
section
theorem SJ {o:Oper}{r:List (Option Oper×Bool)}(hw:Region.wanted o (yielded ops a.tmps)=true)
 (he:(execOp a.eval o).run P w=.ok (.value v) w') (hS:S w') (h:A0 P ops Q S last r (a.put o.dst v) w'):A0 P ops Q S last ((some o,true)::r) a w:=by
 unfold A0;simp only[hw,Wy,Oper.wp,he,Oper.upon];exact⟨.inr hS,h⟩
theorem SK {o:Oper}{r:List (Option Oper×Bool)}{f:FuncId}{R:Value->Wd->Prop}(hw:Region.wanted o (yielded ops a.tmps)=true)
 (he:(execOp a.eval o).run P w=.ok (.enter f args) w) (hc:Calls P f args w fun e w'=>∃ v,e=.returned v/\S w'/\R v w')
 (h:∀ v w',S w'->R v w'->A0 P ops Q S last r (a.put o.dst v) w'):A0 P ops Q S last ((some o,true)::r) a w:=by
 unfold A0;simp only[hw,Wy,Oper.wp,he,Oper.upon];exact hc.mono fun e w' ⟨v,h1,h2,h3⟩=>by subst h1;exact⟨.inr h2,h v w' h2 h3⟩
end
theorem IP (mb:Nat)(b:Bool)(w:Wd):Cl 115 #[Pt mb,.bool b] w (Sm (Iv (if b then 1 else 0)) w):=by
 cases b with
 | true =>
   go_enter func115,ntmps115
   go_wp2_with fail;go_ret;exact⟨rfl,rfl⟩
 | false =>
   go_enter func115,ntmps115
   go_wp2_with fail;go_ret;exact⟨rfl,rfl⟩
theorem SL {α:Type}{l:List α}(h:l.length=2):∃ a b,l=[a,b]:=by
 match l,h with
 | [a,b],_=>exact⟨a,b,rfl⟩
theorem SM {α:Type}{l:List α}(h:l.length=3):∃ a b c,l=[a,b,c]:=by
 match l,h with
 | [a,b,c],_=>exact⟨a,b,c,rfl⟩
theorem M4 {f:Nat->Nat}(h:∀ i,1<=f i):∀ k,k<=sumN k f
 | 0=>VC _
 | k+1=>by
   have:=M4 h k;have:=h k
   show k+1<=sumN k f+f k
   omega
section
variable {o:Own}
theorem Goes.refl {M:Nat}(h:SatE K n Od room w0 mb fs nx w o m V)(hw:m.waits=[]/\m.d.pool.many<=M):Goes K n Od room w0 mb fs nx (NoW M) o w w:=⟨o,m,V,ChgX.of_below (VI _ _) o NoB,hw,h⟩
theorem Goes.after {Wt:List Ev->Int->Nat->Prop}(hc:ChgX NoB o o' w w')(g:Goes K n Od room w0 mb fs nx Wt o' w' w''):Goes K n Od room w0 mb fs nx Wt o w w'':=by
 obtain⟨o2,m2,V2,h1,h2,h3⟩:=g;exact⟨o2,m2,V2,hc.trans h1 (fun _ _ e=>e),h2,h3⟩
theorem Goes.cell {Wt:List Ev->Int->Nat->Prop}(g:Goes K n Od room w0 mb fs nx Wt o w w'){p:Addr}{v:Value}(hc:w.cell? p=some v)(hb:o p.block=none):w'.cell? p=some v:=by
 obtain⟨o2,m2,V2,h1,h2,h3⟩:=g;exact h1.cell hc hb (fun e=>e)
theorem Goes.below0 {Wt:List Ev->Int->Nat->Prop}(g:Goes K n Od room w0 mb fs nx Wt o w w'):Bw w0 w':=by
 obtain⟨o2,m2,V2,h1,h2,h3⟩:=g;exact h3.chg.below0
structure BuiT (K:Law)(n:Nat)(Od:List Nat->Prop)(room:Nat)(w0:Wd)(mb:Nat)(fs:List (Int×BF))(nx:Int)(M:Nat)(o:Own)(w:Wd)(vl:Value)(ks:List Int)(W:Wd)(o':Own)(m':ManD)(V':Nat->BF):Prop where
 sat:SatE K n Od room w0 mb fs nx W o' m' V'
 waits:m'.waits=[]/\m'.d.pool.many<=M
 chg:ChgX NoB o o' w W
 l:LawL W o' w.heap.size vl ks
def BuiS (K:Law)(n:Nat)(Od:List Nat->Prop)(room:Nat)(w0:Wd)(mb:Nat)(fs:List (Int×BF))(nx:Int)(M:Nat)(o:Own)(w:Wd)(vl:Value)(ks:List Int)(W:Wd):Prop:=∃ o' m' V',BuiT K n Od room w0 mb fs nx M o w vl ks W o' m' V'
section
variable {M:Nat}{vl':Value}
theorem BuiT.go (h:BuiT K n Od room w0 mb fs nx M o w vl ks W o' m' V'){M':Nat}(g:Goes K n Od room w0 mb fs' nx' (NoW M') o' W W'):BuiS K n Od room w0 mb fs' nx' M' o w vl ks W':=by
 obtain⟨o2,m2,V2,h1,h2,h3⟩:=g;exact⟨o2,m2,V2,h3,h2,h.chg.trans h1 (fun _ _ e=>e),h.l.chg h1⟩
theorem BuiT.refl (h:BuiT K n Od room w0 mb fs nx M o w vl ks W o' m' V'):Goes K n Od room w0 mb fs nx (NoW M) o' W W:=Goes.refl h.sat h.waits
theorem BuiS.below (h:BuiS K n Od room w0 mb fs nx M o w vl ks W)(hb:Bw W W'):BuiS K n Od room w0 mb fs nx M o w vl ks W':=by
 obtain⟨o',m',V',h⟩:=h;exact h.go (h.refl.below hb)
theorem BuiS.goes (h:BuiS K n Od room w0 mb fs nx M o w vl ks W):Goes K n Od room w0 mb fs nx (NoW M) o w W:=by
 obtain⟨o',m',V',h⟩:=h;exact⟨o',m',V',h.chg,h.waits,h.sat⟩
theorem BuiS.app {k:Int}(h:BuiT K n Od room w0 mb fs nx M o w vl ks W o' m' V')(hown:OwnC 3 W' w.heap.size vl' (Au ks++[Iv k]))(e1:W'.os=W.os)(e2:W'.tape=W.tape)(e3:W'.output=W.output)(e4:W.heap.size<=W'.heap.size)(hk:BA vl vl' W W')(hw0:w0.heap.size<=w.heap.size) :
 BuiS K n Od room w0 mb fs nx M o w vl' (ks++[k]) W':=by
 have hw:=EO e1 e2 e3 e4 hk;exact⟨o',m',V',h.sat.other hw (fun k _ hk=>⟨by have:=(h.l.own.lt k hk).1;omega,h.l.no k hk⟩),h.waits,h.chg.trans (ChgX.of_wr (C:=fun k=>w.heap.size<=k) hw o' (fun k _ hk=>(h.l.own.lt k hk).1)) (fun k hk e=>by omega),h.l.app h.sat.lt hown hk⟩
theorem BuiS.cells (h:BuiS K n Od room w0 mb fs nx M o w vl ks W)(hp:0<ks.length):∃ g c,vl=.slice (some (Av g)) ks.length c/\∀ j,j<ks.length->W.cell? (Aw g j)=some (Iv (at0 ks j)):=by
 obtain⟨o',m',V',h⟩:=h;obtain⟨g,c,e,_⟩:=h.l.own.shape (by simpa [Au] using hp);have e':vl=.slice (some (Av g)) ks.length c:=by rw[e];simp[Au]
 refine⟨g,c,e',fun j hj=>?_⟩;have ho:=h.l.own;rw[e'] at ho;rw[ho.cell j (by simpa [Au] using hj)];simp[Au,As hj,hj]
theorem BuiS.cellsN (h:BuiS K n Od room w0 mb fs nx M o w vl ks W)(hl:ks.length=i)(hp:0<i):∃ g c,vl=.slice (some (Av g)) i c/\∀ j,j<i->W.cell? (Aw g j)=some (Iv (at0 ks j)):=by
 subst hl;exact h.cells hp
end
def BZ (n s:Nat):Nat:=s*2^n-(2^n-1)
theorem Gj (n:Nat){s:Nat}(h:1<=s):BZ n s+(2^n-1)=s*2^n:=by
 have:=Wm (2^n) h;unfold BZ;omega
def Bq (n:Nat)(kid:Nat->ExT)(i:Nat):Nat:=sumN i fun j=>BZ n (kid j).size
theorem M5 (n:Nat)(kid:Nat->ExT):∀ i,Bq n kid i+i*(2^n-1)=(sumN i fun i=>(kid i).size)*2^n
 | 0=>by simp[Bq,sumN]
 | i+1=>by
   have h1:=M5 n kid i;have h2:=Gj n (kid i).size_pos
   show Bq n kid i+BZ n (kid i).size+(i+1)*(2^n-1)=((sumN i fun i=>(kid i).size)+(kid i).size)*2^n
   rw[Xm,Xm];omega
structure BCtx (K:Law)(n:Nat)(Od:List Nat->Prop)(room:Nat)(w0:Wd)(mb:Nat)(fs:List (Int×BF))(nx:Int)(M:Nat)(w w1:Wd)(o:Own)(m:ManD)(V:Nat->BF)(op v:Int)(nk:Nat)(kid:Nat->ExT)(a:Option Addr)(c:Nat)(E:ExT)(Q:Ending->Wd->Prop):Prop where
 HKK:Hq (AO K)
 H5:Hq (∀ k,k<nk->∃ b off x0 x1 x2,a=some (Aw b off)/\w0.cell? (Aw b (off+k*3))=some x0/\w0.cell? (Aw b (off+k*3+1))=some x1/\w0.cell? (Aw b (off+k*3+2))=some x2/\A5 w0 (kid k) (.agg #[x0,x1,x2]))
 HKS:Hq (∀ i,i<nk->(sumN i fun i=>(kid i).size)+(kid i).size+1<=E.size)
 HSZ:Hq (E.size=1+sumN nk fun i=>(kid i).size)
 HPOS:Hq (∀ k,k<=sumN k fun i=>(kid i).size)
 IH:Hq (∀ (i:Nat) (x:Value) (fs':List (Int×BF)) (nx':Int) (W:Wd) (o':Own) (m':ManD) (V':Nat->BF) (M':Nat),i<nk->SatE K n Od room w0 mb fs' nx' W o' m' V'->m'.waits=[]/\m'.d.pool.many<=M'->B2 fs'->A5 w0 (kid i) x->nx'+3*(kid i).size<549755813000->M'+(kid i).size*2^n<=room ->
  Cl 59 #[Pt mb,x] W fun y w'=>∃ k:Int,y=.returned (.tuple #[Iv k,.bool true])/\k+3<=nx'+3*(kid i).size/\Goes K n Od room w0 mb (fs'++[(k,fnT (kid i))]) (k+1) (NoW (M'+BZ n (kid i).size)) o' W w')
 HW1:Hq (w.alloc (.cells #[Iv op,Iv v,.slice a nk c] 79)=w1)
 HG1:Hq (Goes K n Od room w0 mb fs nx (NoW M) o w1 w1)
 HSAT1:Hq (SatE K n Od room w0 mb fs nx w1 o m V)
 HWT:Hq (m.waits=[]/\m.d.pool.many<=M)
 HB2:Hq (B2 fs)
 HQ:Hq (∀ (k:Int) F W M',F=fnT E->k+3<=nx+3*E.size->M'<=M+BZ n E.size->Goes K n Od room w0 mb (fs++[(k,F)]) (k+1) (NoW M') o w1 W->Q (.returned (.tuple #[Iv k,.bool true])) W)
 HMR:Hq (∀ i,i<nk->M+(sumN i fun i=>(kid i).size)*2^n+(kid i).size*2^n+2^n<=room)
 HCK:Hq (∀ i,Bq n kid i+i*(2^n-1)=(sumN i fun i=>(kid i).size)*2^n)
 HCI:Hq (∀ i,BZ n (kid i).size+(2^n-1)=(kid i).size*2^n)
 HEP:Hq (E.size*2^n=2^n+(sumN nk fun i=>(kid i).size)*2^n/\BZ n E.size+(2^n-1)=E.size*2^n)
 HME:Hq (M+E.size*2^n<=room)
 hn64:nk<=64
 hnx:nx+3*E.size<549755813000
 hE1:1<=E.size
 hs1:w1.heap.size=w.heap.size+1
 d0:w1.cell? (Av w.heap.size)=some (Iv op)
 d1:w1.cell? (Aw w.heap.size 1)=some (Iv v)
 d2:w1.cell? (Aw w.heap.size 2)=some (.slice a nk c)
 on:o w.heap.size=none
 hw0:w0.heap.size<=w1.heap.size
 hp2:0<2^n
 h2 : -9223372036854775808<=op/\op<=9223372036854775807
 h3 : -9223372036854775808<=v/\v<=9223372036854775807
abbrev XU:=@Nat.le_add_right
theorem SN {v:Int}{kid:Nat->ExT}{a:Option Addr}{E:ExT}{Q:Ending->Wd->Prop}{M:Nat}(hctx:BCtx K n Od room w0 mb fs nx M w w1 o m V op v nk kid a c E Q)(h1:op=1)(hF:fnT E=fun _=>true) :
 Cl 59 #[Pt mb,.agg #[Iv op,Iv v,.slice a nk c]] w Q:=by
 obtain⟨HKK,H5,HKS,HSZ,HPOS,IH,HW1,HG1,HSAT1,HWT,HB2,HQ,HMR,HCK,HCI,HEP,HME,hn64,hnx,hE1,hs1,d0,d1,d2,on,hw0,hp2,h2,h3⟩:=hctx;subst h1;have g2:=Hd (IP mb true w1);have g1:=Hd (Gh HKK.o HG1.o (by omega) (k:=1) (F:=fun _=>true) HB2.o.one);have g0:Hq ((fun _=>true)=fnT E):=Hd hF.symm;have g3:Hq (M<=M+BZ n E.size):=Hd (XU _ _);clear IH
 go_enter func59,ntmps59
 go_upto_region 1 with fail;rw[HW1.o];go_wp2_with fail;refine g2.o.mono ?_;rintro y w' ⟨rfl,rfl⟩;go_wp2_with fail;refine g1.o.mono ?_;rintro y w2 ⟨rfl,g⟩;have HF:=Hd (HQ.o nx _ w2 _ g0.o (by omega) g3.o g);clear g;go_wp2_with fail;exact HF.o
theorem SO {v:Int}{kid:Nat->ExT}{a:Option Addr}{E:ExT}{Q:Ending->Wd->Prop}{M:Nat}(hctx:BCtx K n Od room w0 mb fs nx M w w1 o m V op v nk kid a c E Q)(h1:op=2)(hF:fnT E=fun _=>false) :
 Cl 59 #[Pt mb,.agg #[Iv op,Iv v,.slice a nk c]] w Q:=by
 obtain⟨HKK,H5,HKS,HSZ,HPOS,IH,HW1,HG1,HSAT1,HWT,HB2,HQ,HMR,HCK,HCI,HEP,HME,hn64,hnx,hE1,hs1,d0,d1,d2,on,hw0,hp2,h2,h3⟩:=hctx;subst h1;have g2:=Hd (IP mb false w1);have g1:=Hd (Gh HKK.o HG1.o (by omega) (k:=0) (F:=fun _=>false) HB2.o.zero);have g0:Hq ((fun _=>false)=fnT E):=Hd hF.symm;have g3:Hq (M<=M+BZ n E.size):=Hd (XU _ _);clear IH
 go_enter func59,ntmps59
 go_upto_region 1 with fail;rw[HW1.o];go_wp2_with fail;refine g2.o.mono ?_;rintro y w' ⟨rfl,rfl⟩;go_wp2_with fail;refine g1.o.mono ?_;rintro y w2 ⟨rfl,g⟩;have HF:=Hd (HQ.o nx _ w2 _ g0.o (by omega) g3.o g);clear g;go_wp2_with fail;exact HF.o
theorem SP {v:Int}{kid:Nat->ExT}{a:Option Addr}{E:ExT}{Q:Ending->Wd->Prop}{M:Nat}(hctx:BCtx K n Od room w0 mb fs nx M w w1 o m V op v nk kid a c E Q){u:Nat}(hu:u<n)(h1:op=3)(hvu:v=u)(hF:fnT E=varF u) :
 Cl 59 #[Pt mb,.agg #[Iv op,Iv v,.slice a nk c]] w Q:=by
 obtain⟨HKK,H5,HKS,HSZ,HPOS,IH,HW1,HG1,HSAT1,HWT,HB2,HQ,HMR,HCK,HCI,HEP,HME,hn64,hnx,hE1,hs1,d0,d1,d2,on,hw0,hp2,h2,h3⟩:=hctx;subst hvu;subst h1;have g1:=Hd (SI HKK.o HG1.o (by omega) (by have:=HEP.o;have:=HME.o;omega) hu);have g0:Hq (varF u=fnT E):=Hd hF.symm;have g2:Hq (M+1<=M+BZ n E.size):=Hd (by have:=HEP.o;omega);clear IH
 go_enter func59,ntmps59
 go_upto_region 1 with fail;rw[HW1.o];go_wp2_with fail;refine g1.o.mono ?_;rintro y w2 ⟨rfl,g⟩;have HF:=Hd (HQ.o nx _ w2 _ g0.o (by omega) g2.o g);clear g;go_wp2_with fail;exact HF.o
end
section
variable {o:Own}
theorem SQ {v:Int}{kid:Nat->ExT}{a:Option Addr}{E:ExT}{Q:Ending->Wd->Prop}{M:Nat}(hctx:BCtx K n Od room w0 mb fs nx M w w1 o m V op v nk kid a c E Q)(h1:op=5\/op=6\/op=7)(hF:fnT E=accT op kid nk) :
 Cl 59 #[Pt mb,.agg #[Iv op,Iv v,.slice a nk c]] w Q:=by
 obtain⟨HKK,H5,HKS,HSZ,HPOS,IH,HW1,HG1,HSAT1,HWT,HB2,HQ,HMR,HCK,HCI,HEP,HME,hn64,hnx,hE1,hs1,d0,d1,d2,on,hw0,hp2,h2,h3⟩:=hctx;have ga:5<=op/\op<=9:=by omega
 have gc:Hq (accT op kid nk=fnT E):=Hd hF.symm;have gd:=Hd (fun b=>IP mb b w1)
 have g8:Hq (∀ z:Int,z=(if op=5 then 1 else 0)->Cl 114 #[Pt mb,Iv z] w1 fun x w''=>x=.returned (.tuple #[Iv nx,Iv 0])/\Goes K n Od room w0 mb (fs++[(nx,accT op kid 0)]) (nx+1) (NoW M) o w1 w''):=Hd (by
  rintro z rfl
  by_cases e:op=5
  . rw[Vw e,show accT op kid 0=fun _=>true by unfold accT;simp[e]];exact Gh HKK.o HG1.o (by omega) HB2.o.one
  . rw[Vs e,show accT op kid 0=fun _=>false by unfold accT;simp[e]];exact Gh HKK.o HG1.o (by omega) HB2.o.zero)
 obtain⟨A,hA⟩:=Ex (accT op kid:Nat->BF);have gj:Hq (∀ i,Dw op (A i) (fnT (kid i))=A (i+1)):=Hd fun i=>by rw[hA];rfl
 rw[<- hA] at g8 gc;clear hA;rcases h1 with h1|h1|h1
 all_goals
  subst h1
  go_enter func59,ntmps59
  go_upto_region 1 with fail;rw[HW1.o];go_wp2_with fail;refine(gd.o _).mono ?_;rintro y w' ⟨rfl,rfl⟩;go_wp2_with fail;refine(g8.o _ (by rfl)).mono ?_;rintro y w2 ⟨rfl,g⟩;have gi:=Hd g;clear g gd g8;go_wp2_with fail
  go_loopw [10,12,13,14] (fun s10 s12 s13 s14 wr=>∃ (i:Nat) (k:Int),i<=nk/\s10=Iv k/\s12=.bool true/\s13=Iv i/\Hq (k+3<=nx+3*((1+sumN i fun i=>(kid i).size:Nat):Int))/\Hq (Goes K n Od room w0 mb (fs++[(k,A i)]) (k+1) (NoW (M+(sumN i fun i=>(kid i).size)*2^n)) o w1 wr)) (fun _ _ s13 _ _=>nk-(intOf s13).toNat)
  case atStart=>exact⟨0,nx,VC _,rfl,rfl,rfl,Hd (by show nx+3<=nx+3*((1+0:Nat):Int);omega),Hd (gi.o.more (XU _ _))⟩
  case round =>
   obtain⟨i,k,hi,rfl,rfl,rfl,HN,HG⟩:=hrel;have e0:=HG.o.cell (p:=Av w.heap.size) d0 on;have e2:=HG.o.cell (p:=Aw w.heap.size 2) d2 on
   by_cases g0:i<nk
   ·obtain⟨b,off,x0,x1,x2,rfl,c0,c1,c2,hx⟩:=H5.o i g0;have g1:=HG.o.below0;have q0:=Cq g1 c0;have q1:=Cq g1 c1;have q2:=Cq g1 c2;have gf:(i:Int)<nk:=by omega
    have gl:=HKS.o i g0;obtain⟨o1,m1,V1,g9,g5,g6⟩:=HG.o;have gk:=HN.o;have g2:=Hd (IH.o i _ (fs++[(k,A i)]) (k+1) _ o1 m1 V1 _ g0 g6 g5 (HB2.o.app _) hx (by omega) (by have:=HMR.o i g0;omega));have ge:=Hd g9;clear g1 c0 c1 c2 hx g6 g5 g9;go_wp2_with fail;refine g2.o.mono ?_;rintro y w3 ⟨k2,rfl,gn,g3⟩
    have g7:Hq (Goes K n Od room w0 mb (fs++[(k,A i),(k2,fnT (kid i))]) (k2+1) (NoW (M+(sumN i fun i=>(kid i).size)*2^n+BZ n (kid i).size)) o w1 w3):=Hd (by
     have:=g3.after ge.o;rw[VH] at this;exact this)
    have f0:=g7.o.cell (p:=Av w.heap.size) d0 on;have HJ:=Hd (Mw HKK.o g7.o HB2.o (by omega) (by have:=HMR.o i g0;have:=HCI.o i;omega) ga.1 ga.2);clear g3 g2 ge q0 q1 q2 e0 e2;go_wp2_with fail;refine HJ.o.mono ?_;rintro y w4 ⟨k4,rfl,gm,g4⟩
    have gh:Hq (Goes K n Od room w0 mb (fs++[(k4,A (i+1))]) (k4+1) (NoW (M+(sumN (i+1) fun i=>(kid i).size)*2^n)) o w1 w4):=Hd (by
     rw[<- gj.o i];refine g4.more ?_
     show _<=M+((sumN i fun i=>(kid i).size)+(kid i).size)*2^n
     rw[Xm];have:=HCI.o i;omega)
    have gg:Hq (k4+3<=nx+3*((1+sumN (i+1) fun i=>(kid i).size:Nat):Int)):=Hd (by
     show k4+3<=nx+3*((1+((sumN i fun i=>(kid i).size)+(kid i).size):Nat):Int)
     omega)
    clear g4 HJ f0 g7;go_wp2_with fail;go_roundw
    case rel=>exact⟨i+1,k4,by omega,rfl,rfl,by go_num,gg,gh⟩
    case measure=>simp[intOf];omega
   ·obtain rfl:i=nk:=by omega
    have gf:¬ (i:Int)<i:=by omega
    have HF:=Hd (HQ.o k _ _ _ gc.o (by have:=HN.o;have:=HSZ.o;omega) (by have:=HEP.o;omega) HG.o);go_wp2_with fail;exact HF.o
end
section
variable {o:Own}
abbrev Ww:=@List.getElem_append_left
abbrev Wp:=@List.getElem_append_right
theorem SR {v:Int}{kid:Nat->ExT}{a:Option Addr}{E:ExT}{Q:Ending->Wd->Prop}{M:Nat}(hctx:BCtx K n Od room w0 mb fs nx M w w1 o m V op v nk kid a c E Q)(h1:op=4)(hnk:nk=1)(hF:fnT E=notF (fnT (kid 0))) :
 Cl 59 #[Pt mb,.agg #[Iv op,Iv v,.slice a nk c]] w Q:=by
 obtain⟨HKK,H5,HKS,HSZ,HPOS,IH,HW1,HG1,HSAT1,HWT,HB2,HQ,HMR,HCK,HCI,HEP,HME,hn64,hnx,hE1,hs1,d0,d1,d2,on,hw0,hp2,h2,h3⟩:=hctx;have g1:(op == 1)=false:=by simp;omega
 have g2:(op == 2)=false:=by simp;omega
 have g3:(op == 3)=false:=by simp;omega
 have g5:(op == 5)=false:=by simp;omega
 have g6:(op == 6)=false:=by simp;omega
 have g7:(op == 7)=false:=by simp;omega
 have g4:(op == 4)=true:=by simp;omega
 have gD:=Hd hnk;clear h1 hnk;obtain⟨w2,gf⟩:=Ex (w1.alloc (.cells #[] 3));have gC:Hq (_=w2):=Hd gf.symm;have g9:Bw w1 w2:=by rw[gf];exact Ah _ _
 have gm:Hq (BuiS K n Od room w0 mb (fs++[]) nx (M+Bq n kid 0) o w1 (.slice (some (Av (w.heap.size+1))) 0 0) (([]:List (Int×BF)).map Prod.fst) w2):=Hd ⟨o,m,V,by rw[WU];exact HSAT1.o.below g9,HWT.o,CJ g9 o,by rw[gf,<- hs1];exact DF _ _ _ (Vu _),fun k hk=>by cases hk;rw[<- hs1];exact HSAT1.o.lt.none (Vu _)⟩;have gn:=Hd g9;clear gf g9
 go_enter func59,ntmps59
 go_upto_region 1 with fail;rw[HW1.o];go_upto_region 23 with fail;rw[gC.o];have e2:=Cq gn.o d2;go_wp2_with fail
 go_loopw [15,106] (fun s15 s106 wr=>∃ (i:Nat) (hs:List (Int×BF)) (nxi:Int),i<=nk/\s106=Iv i/\hs.length=i/\nxi+2*i<=nx+3*((sumN i fun i=>(kid i).size:Nat):Int)/\Hq (∀ j (hj:j<hs.length),hs[j].2=fnT (kid j))/\Hq (BuiS K n Od room w0 mb (fs++hs) nxi (M+Bq n kid i) o w1 s15 (hs.map Prod.fst) wr)) (fun _ s106 _=>nk-(intOf s106).toNat)
 case atStart=>exact⟨0,[],nx,VC _,rfl,rfl,by show nx+2*((0:Nat):Int)<=nx+3*((0:Nat):Int);omega,Hd (fun j hj=>by simp at hj),gm⟩
 case round =>
  clear gm gn e2
  rename Wd=>wy
  obtain⟨i,hs,nxi,hi,rfl,gA,gI,gt,g0⟩:=hrel
  by_cases gi:i<nk
  ·obtain⟨b,off,x0,x1,x2,rfl,c0,c1,c2,hx⟩:=H5.o i gi;have gj:=g0.o.goes.below0;have q0:=Cq gj c0;have q1:=Cq gj c1;have q2:=Cq gj c2;obtain⟨zo,zv,za,zn,zc,rfl,rfl,rfl⟩:=hx.parts;have gz:(i:Int)<nk:=by omega
   have gK:=HKS.o i gi;obtain⟨wz,ge⟩:=Ex (wy.alloc (.cells #[Iv zo,Iv zv,.slice za zn zc] 79));have gB:Hq (_=wz):=Hd ge.symm;have gr:Bw wy wz:=by rw[ge];exact Ah _ _
   have g8:wz.heap[wy.heap.size]?=some (.cells #[Iv zo,Iv zv,.slice za zn zc] 79 (0,0)):=by rw[ge];exact Vv _ _
   have p0:wz.cell? (Av wy.heap.size)=some (Iv zo):=by rw[Vt _ _ 0 _ _ _ g8];rfl
   have p1:wz.cell? (Aw wy.heap.size 1)=some (Iv zv):=by rw[Vt _ _ 1 _ _ _ g8];rfl
   have p2:wz.cell? (Aw wy.heap.size 2)=some (.slice za zn zc):=by rw[Vt _ _ 2 _ _ _ g8];rfl
   obtain⟨o1,m1,V1,bt⟩:=g0.o.below gr;have gH:=HPOS.o i;have gk:=Hd (IH.o i _ (fs++hs) nxi wz o1 m1 V1 _ gi bt.sat bt.waits (HB2.o.app _) hx (by omega) (by have:=HMR.o i gi;have:=HCK.o i;omega));have gc:=Hd bt;clear gj c0 c1 c2 hx bt ge gr g8 g0;go_upto_region 26 with fail;rw[gB.o];clear q0 q1 q2;go_wp2_with fail;refine gk.o.mono ?_;rintro y w3 ⟨k2,rfl,gL,gg⟩;have gl:=Hd (gc.o.go (M':=M+Bq n kid (i+1)) (gg.more (Nat.le_of_eq (XD _ _ _))));have gF:Hq (∀ j (hj:j<(hs++[(k2,fnT (kid i))]).length),(hs++[(k2,fnT (kid i))])[j].2=fnT (kid j)):=Hd fun j hj=>by
    rcases VE j hs.length with h|h
    . rw[Ww h];exact gt.o j h
    ·have gy:j=i:=by simp at hj;omega
     subst gy;rw[Wp (by omega)];simp
   clear gg gk gc p0 p1 p2;obtain⟨o3,m3,V3,bt3⟩:=gl.o;have gw:w1.heap.size<=w3.heap.size:=bt3.chg.size;have gd:=Hd bt3;clear bt3;go_upto_region 30 with (at_builtin;refine Cz FO _ rfl _ _ rfl w1.heap.size _ (Au (hs.map Prod.fst)) _ rfl rfl rfl rfl rfl (by exact gd.o.l.own) (by simp[Au];omega) gw ?_;intro v5 w5 gh r1 r2 r3 r4 gp)
   have gx:Hq (BuiS K n Od room w0 mb (fs++(hs++[(k2,fnT (kid i))])) (k2+1) (M+Bq n kid (i+1)) o w1 v5 ((hs++[(k2,fnT (kid i))]).map Prod.fst) w5):=Hd (by
    have:=BuiS.app gd.o gh r1 r2 r3 r4 gp hw0;rw[VH] at this;rw[VU];exact this)
   clear gh r1 r2 r3 r4 gp gd gl;go_wp2_with fail;go_roundw
   case rel=>exact⟨i+1,hs++[(k2,fnT (kid i))],k2+1,by omega,by go_num,by simp;omega,by
    show k2+1+2*((i+1:Nat):Int)<=nx+3*(((sumN i fun i=>(kid i).size)+(kid i).size:Nat):Int)
    omega,gF,gx⟩
   case measure=>simp[intOf];omega
  ·obtain rfl:i=nk:=by omega
   have gz:¬ (i:Int)<i:=by omega
   have f0:=g0.o.goes.cell (p:=Av w.heap.size) d0 on;have gv:=HSZ.o;have gG:nxi+2*i+3<=nx+3*E.size:=by omega
   have hnk:=gD.o;have gJ:1<=i:=by omega
   clear gv H5 IH HSZ HKS HPOS;obtain⟨o1,m1,V1,bt⟩:=g0.o;have gc:=Hd bt;clear bt;subst hnk;obtain⟨⟨k0,F0⟩,rfl⟩:=List.length_eq_one_iff.1 gA;obtain⟨g,cp,rfl,ga⟩:=g0.o.cellsN (i:=1) rfl (by omega);have c0:wy.cell? (Av g)=some (Iv k0):=ga 0 (by omega);have HF:Hq (notF F0=fnT E):=Hd (by rw[hF,<- gt.o 0 (by simp)];rfl);have HN:=Hd (Mv HKK.o gc.o.refl (by omega) (k:=k0) (F:=F0) (by simp));clear ga;go_wp2_with fail;refine HN.o.mono ?_;rintro y w3 ⟨rfl,g3⟩;have gu:=Hd (gc.o.go g3);obtain⟨g',cp',ev,gq⟩:=gu.o.cellsN (i:=1) rfl (by omega);cases ev;have c3:w3.cell? (Av g)=some (Iv k0):=gq 0 (by omega);have HD:=Hd (Gi HKK.o (hs:=[(k0,F0)]) (r:=[(nxi,notF F0)]) (by have:=gu.o.goes;rw[VH] at this;exact this) HB2.o (by omega) (by simp) (T:=w3.alloc (.cells #[Iv k0] 3)) rfl);clear g3 gq HN;go_wp2_with fail;refine HD.o.mono ?_;rintro y w4 ⟨rfl,g4⟩;have gE:=Hd (HQ.o nxi _ w4 _ HF.o (by omega) (by have:=HEP.o;have:=HCK.o 1;omega) g4);clear g4 HD;go_wp2_with fail;exact gE.o
end
section
variable {o:Own}
theorem SS {v:Int}{kid:Nat->ExT}{a:Option Addr}{E:ExT}{Q:Ending->Wd->Prop}{M:Nat}(hctx:BCtx K n Od room w0 mb fs nx M w w1 o m V op v nk kid a c E Q)(h1:op=8\/op=9)(hnk:nk=2)(hF:fnT E=Dw op (fnT (kid 0)) (fnT (kid 1))) :
 Cl 59 #[Pt mb,.agg #[Iv op,Iv v,.slice a nk c]] w Q:=by
 obtain⟨HKK,H5,HKS,HSZ,HPOS,IH,HW1,HG1,HSAT1,HWT,HB2,HQ,HMR,HCK,HCI,HEP,HME,hn64,hnx,hE1,hs1,d0,d1,d2,on,hw0,hp2,h2,h3⟩:=hctx;have g1:(op == 1)=false:=by simp;omega
 have g2:(op == 2)=false:=by simp;omega
 have g3:(op == 3)=false:=by simp;omega
 have g5:(op == 5)=false:=by simp;omega
 have g6:(op == 6)=false:=by simp;omega
 have g7:(op == 7)=false:=by simp;omega
 have g4:(op == 4)=false:=by simp;omega
 have g10:(op == 10)=false:=by simp;omega
 have gC:=Hd hnk;have H1:=Hd h1;clear h1 hnk;obtain⟨w2,gf⟩:=Ex (w1.alloc (.cells #[] 3));have gB:Hq (_=w2):=Hd gf.symm;have gc:Bw w1 w2:=by rw[gf];exact Ah _ _
 have gn:Hq (BuiS K n Od room w0 mb (fs++[]) nx (M+Bq n kid 0) o w1 (.slice (some (Av (w.heap.size+1))) 0 0) (([]:List (Int×BF)).map Prod.fst) w2):=Hd ⟨o,m,V,by rw[WU];exact HSAT1.o.below gc,HWT.o,CJ gc o,by rw[gf,<- hs1];exact DF _ _ _ (Vu _),fun k hk=>by cases hk;rw[<- hs1];exact HSAT1.o.lt.none (Vu _)⟩;have gp:=Hd gc;clear gf gc
 go_enter func59,ntmps59
 go_upto_region 1 with fail;rw[HW1.o];go_upto_region 23 with fail;rw[gB.o];have e2:=Cq gp.o d2;go_wp2_with fail
 go_loopw [15,106] (fun s15 s106 wr=>∃ (i:Nat) (hs:List (Int×BF)) (nxi:Int),i<=nk/\s106=Iv i/\hs.length=i/\nxi+2*i<=nx+3*((sumN i fun i=>(kid i).size:Nat):Int)/\Hq (∀ j (hj:j<hs.length),hs[j].2=fnT (kid j))/\Hq (BuiS K n Od room w0 mb (fs++hs) nxi (M+Bq n kid i) o w1 s15 (hs.map Prod.fst) wr)) (fun _ s106 _=>nk-(intOf s106).toNat)
 case atStart=>exact⟨0,[],nx,VC _,rfl,rfl,by show nx+2*((0:Nat):Int)<=nx+3*((0:Nat):Int);omega,Hd (fun j hj=>by simp at hj),gn⟩
 case round =>
  clear gn gp e2
  rename Wd=>wy
  obtain⟨i,hs,nxi,hi,rfl,gz,gH,gl,g9⟩:=hrel
  by_cases gi:i<nk
  ·obtain⟨b,off,x0,x1,x2,rfl,c0,c1,c2,hx⟩:=H5.o i gi;have gj:=g9.o.goes.below0;have q0:=Cq gj c0;have q1:=Cq gj c1;have q2:=Cq gj c2;obtain⟨zo,zv,za,zn,zc,rfl,rfl,rfl⟩:=hx.parts;have gy:(i:Int)<nk:=by omega
   have gJ:=HKS.o i gi;obtain⟨wz,ge⟩:=Ex (wy.alloc (.cells #[Iv zo,Iv zv,.slice za zn zc] 79));have gA:Hq (_=wz):=Hd ge.symm;have gt:Bw wy wz:=by rw[ge];exact Ah _ _
   have ga:wz.heap[wy.heap.size]?=some (.cells #[Iv zo,Iv zv,.slice za zn zc] 79 (0,0)):=by rw[ge];exact Vv _ _
   have p0:wz.cell? (Av wy.heap.size)=some (Iv zo):=by rw[Vt _ _ 0 _ _ _ ga];rfl
   have p1:wz.cell? (Aw wy.heap.size 1)=some (Iv zv):=by rw[Vt _ _ 1 _ _ _ ga];rfl
   have p2:wz.cell? (Aw wy.heap.size 2)=some (.slice za zn zc):=by rw[Vt _ _ 2 _ _ _ ga];rfl
   obtain⟨o1,m1,V1,bt⟩:=g9.o.below gt;have gG:=HPOS.o i;have gk:=Hd (IH.o i _ (fs++hs) nxi wz o1 m1 V1 _ gi bt.sat bt.waits (HB2.o.app _) hx (by omega) (by have:=HMR.o i gi;have:=HCK.o i;omega));have g8:=Hd bt;clear gj c0 c1 c2 hx bt ge gt ga g9;go_upto_region 26 with fail;rw[gA.o];clear q0 q1 q2;go_wp2_with fail;refine gk.o.mono ?_;rintro y w3 ⟨k2,rfl,gK,gg⟩;have gm:=Hd (g8.o.go (M':=M+Bq n kid (i+1)) (gg.more (Nat.le_of_eq (XD _ _ _))));have gE:Hq (∀ j (hj:j<(hs++[(k2,fnT (kid i))]).length),(hs++[(k2,fnT (kid i))])[j].2=fnT (kid j)):=Hd fun j hj=>by
    rcases VE j hs.length with h|h
    . rw[Ww h];exact gl.o j h
    ·have gx:j=i:=by simp at hj;omega
     subst gx;rw[Wp (by omega)];simp
   clear gg gk g8 p0 p1 p2;obtain⟨o3,m3,V3,bt3⟩:=gm.o;have gv:w1.heap.size<=w3.heap.size:=bt3.chg.size;have gd:=Hd bt3;clear bt3;go_upto_region 30 with (at_builtin;refine Cz FO _ rfl _ _ rfl w1.heap.size _ (Au (hs.map Prod.fst)) _ rfl rfl rfl rfl rfl (by exact gd.o.l.own) (by simp[Au];omega) gv ?_;intro v5 w5 gh r1 r2 r3 r4 gq)
   have gw:Hq (BuiS K n Od room w0 mb (fs++(hs++[(k2,fnT (kid i))])) (k2+1) (M+Bq n kid (i+1)) o w1 v5 ((hs++[(k2,fnT (kid i))]).map Prod.fst) w5):=Hd (by
    have:=BuiS.app gd.o gh r1 r2 r3 r4 gq hw0;rw[VH] at this;rw[VU];exact this)
   clear gh r1 r2 r3 r4 gq gd gm;go_wp2_with fail;go_roundw
   case rel=>exact⟨i+1,hs++[(k2,fnT (kid i))],k2+1,by omega,by go_num,by simp;omega,by
    show k2+1+2*((i+1:Nat):Int)<=nx+3*(((sumN i fun i=>(kid i).size)+(kid i).size:Nat):Int)
    omega,gE,gw⟩
   case measure=>simp[intOf];omega
  ·obtain rfl:i=nk:=by omega
   have gy:¬ (i:Int)<i:=by omega
   have f0:=g9.o.goes.cell (p:=Av w.heap.size) d0 on;have gu:=HSZ.o;have gF:nxi+2*i+3<=nx+3*E.size:=by omega
   have hnk:=gC.o;have gI:1<=i:=by omega
   clear gu H5 IH HSZ HKS HPOS;obtain⟨o1,m1,V1,bt⟩:=g9.o;have g8:=Hd bt;clear bt;subst hnk;obtain⟨⟨k0,F0⟩,⟨k1',F1⟩,rfl⟩:=SL gz;obtain⟨g,cp,rfl,g0⟩:=g9.o.cellsN (i:=2) rfl (by omega);have c0:wy.cell? (Av g)=some (Iv k0):=g0 0 (by omega);have c1:wy.cell? (Aw g 1)=some (Iv k1'):=g0 1 (by omega);have HF:Hq (Dw op F0 F1=fnT E):=Hd (by rw[hF,<- gl.o 0 (by simp),<- gl.o 1 (by simp)];rfl);have HJ:Hq (∀ W,W=wy.drew->Cl 116 #[Pt mb,Iv op,Iv k0,Iv k1'] W fun x w''=>∃ k:Int,x=.returned (.tuple #[Iv k,.bool true])/\k<=nxi+1/\Goes K n Od room w0 mb (fs++[(k,Dw op F0 F1)]) (k+1) (NoW (M+Bq n kid 2+(2^n-1))) o1 wy w'') :=
    Hd fun W hW=>by subst hW;exact Mw HKK.o (g8.o.refl.below (Am wy 1)) HB2.o (by omega) (by have:=HEP.o;have:=HCK.o 2;have:=HME.o;omega) (by have:=H1.o;omega) (by have:=H1.o;omega)
   clear g0;go_upto_region 39 with fail;refine AJ (fun W:Wd=>W.cell? (Av w.heap.size)=some (Iv op)/\W.cell? (Av g)=some (Iv k0)/\W.cell? (Aw g 1)=some (Iv k1')) false 14
    [(0,false),(1,false),(2,false),(3,false),(4,false),(5,false),(6,false),(7,false),(8,false),(9,true),(10,false),(11,false),(12,false),(13,false)] (by kernel_rfl) (by kernel_rfl) ⟨f0,c0,c1⟩ ?_
   simp only[planned,AH]
   iterate 9
    refine Aq rfl ?_;apply Exists.intro;refine⟨fun w' hw=>?_,?_⟩
    . obtain⟨h1,h2,h3⟩:=hw;go_simp;rfl
    simp only[Ab]
   refine BH (R:=fun v w'=>∃ k:Int,v=.tuple #[Iv k,.bool true]/\k<=nxi+1/\Goes K n Od room w0 mb (fs++[(k,Dw op F0 F1)]) (k+1) (NoW (M+Bq n kid 2+(2^n-1))) o1 wy w') rfl (by go_simp) ((HJ.o _ rfl).mono (fun e w' he=>?_)) ?_
   . obtain⟨k,rfl,q1,q2⟩:=he;have hb:=g8.o.go q2;obtain⟨g',cp',ev,gr⟩:=hb.cellsN (i:=2) rfl (by omega);cases ev;exact⟨_,rfl,⟨hb.goes.cell (p:=Av w.heap.size) d0 on,gr 0 (by omega),gr 1 (by omega)⟩,k,rfl,q1,q2⟩
   rintro v w3-⟨k,rfl,q1,q2⟩;have gD:=Hd (HQ.o k _ w3 _ HF.o (by omega) (by have:=HEP.o;have:=HCK.o 2;omega) (g8.o.go q2).goes);clear q2 HJ;simp only[Ab]
   iterate 4
    refine Aq rfl ?_;apply Exists.intro;refine⟨fun w' hw=>?_,?_⟩
    . obtain⟨h1,h2,h3⟩:=hw;go_simp;rfl
    simp only[Ab]
   refine Bs ?_;go_wp2_with fail;exact gD.o
end
section
variable {o:Own}
theorem SU {v:Int}{kid:Nat->ExT}{a:Option Addr}{E:ExT}{Q:Ending->Wd->Prop}{M:Nat}(hctx:BCtx K n Od room w0 mb fs nx M w w1 o m V op v nk kid a c E Q)(h1:op=10)(hnk:nk=3)(hF:fnT E=Bc (fnT (kid 0)) (fnT (kid 1)) (fnT (kid 2))) :
 Cl 59 #[Pt mb,.agg #[Iv op,Iv v,.slice a nk c]] w Q:=by
 obtain⟨HKK,H5,HKS,HSZ,HPOS,IH,HW1,HG1,HSAT1,HWT,HB2,HQ,HMR,HCK,HCI,HEP,HME,hn64,hnx,hE1,hs1,d0,d1,d2,on,hw0,hp2,h2,h3⟩:=hctx;have g1:(op == 1)=false:=by simp;omega
 have g2:(op == 2)=false:=by simp;omega
 have g3:(op == 3)=false:=by simp;omega
 have g5:(op == 5)=false:=by simp;omega
 have g6:(op == 6)=false:=by simp;omega
 have g7:(op == 7)=false:=by simp;omega
 have g4:(op == 4)=false:=by simp;omega
 have g10:(op == 10)=true:=by simp;omega
 have gE:=Hd hnk;clear h1 hnk;obtain⟨w2,gh⟩:=Ex (w1.alloc (.cells #[] 3));have gD:Hq (_=w2):=Hd gh.symm;have ge:Bw w1 w2:=by rw[gh];exact Ah _ _
 have gq:Hq (BuiS K n Od room w0 mb (fs++[]) nx (M+Bq n kid 0) o w1 (.slice (some (Av (w.heap.size+1))) 0 0) (([]:List (Int×BF)).map Prod.fst) w2):=Hd ⟨o,m,V,by rw[WU];exact HSAT1.o.below ge,HWT.o,CJ ge o,by rw[gh,<- hs1];exact DF _ _ _ (Vu _),fun k hk=>by cases hk;rw[<- hs1];exact HSAT1.o.lt.none (Vu _)⟩;have gr:=Hd ge;clear gh ge
 go_enter func59,ntmps59
 go_upto_region 1 with fail;rw[HW1.o];go_upto_region 23 with fail;rw[gD.o];have e2:=Cq gr.o d2;go_wp2_with fail
 go_loopw [15,106] (fun s15 s106 wr=>∃ (i:Nat) (hs:List (Int×BF)) (nxi:Int),i<=nk/\s106=Iv i/\hs.length=i/\nxi+2*i<=nx+3*((sumN i fun i=>(kid i).size:Nat):Int)/\Hq (∀ j (hj:j<hs.length),hs[j].2=fnT (kid j))/\Hq (BuiS K n Od room w0 mb (fs++hs) nxi (M+Bq n kid i) o w1 s15 (hs.map Prod.fst) wr)) (fun _ s106 _=>nk-(intOf s106).toNat)
 case atStart=>exact⟨0,[],nx,VC _,rfl,rfl,by show nx+2*((0:Nat):Int)<=nx+3*((0:Nat):Int);omega,Hd (fun j hj=>by simp at hj),gq⟩
 case round =>
  clear gq gr e2
  rename Wd=>wy
  obtain⟨i,hs,nxi,hi,rfl,gA,gJ,gl,ga⟩:=hrel
  by_cases gj:i<nk
  ·obtain⟨b,off,x0,x1,x2,rfl,c0,c1,c2,hx⟩:=H5.o i gj;have gk:=ga.o.goes.below0;have q0:=Cq gk c0;have q1:=Cq gk c1;have q2:=Cq gk c2;obtain⟨zo,zv,za,zn,zc,rfl,rfl,rfl⟩:=hx.parts;have gz:(i:Int)<nk:=by omega
   have gL:=HKS.o i gj;obtain⟨wz,gf⟩:=Ex (wy.alloc (.cells #[Iv zo,Iv zv,.slice za zn zc] 79));have gC:Hq (_=wz):=Hd gf.symm;have gu:Bw wy wz:=by rw[gf];exact Ah _ _
   have gd:wz.heap[wy.heap.size]?=some (.cells #[Iv zo,Iv zv,.slice za zn zc] 79 (0,0)):=by rw[gf];exact Vv _ _
   have p0:wz.cell? (Av wy.heap.size)=some (Iv zo):=by rw[Vt _ _ 0 _ _ _ gd];rfl
   have p1:wz.cell? (Aw wy.heap.size 1)=some (Iv zv):=by rw[Vt _ _ 1 _ _ _ gd];rfl
   have p2:wz.cell? (Aw wy.heap.size 2)=some (.slice za zn zc):=by rw[Vt _ _ 2 _ _ _ gd];rfl
   obtain⟨o1,m1,V1,bt⟩:=ga.o.below gu;have gI:=HPOS.o i;have gm:=Hd (IH.o i _ (fs++hs) nxi wz o1 m1 V1 _ gj bt.sat bt.waits (HB2.o.app _) hx (by omega) (by have:=HMR.o i gj;have:=HCK.o i;omega));have gc:=Hd bt;clear gk c0 c1 c2 hx bt gf gu gd ga;go_upto_region 26 with fail;rw[gC.o];clear q0 q1 q2;go_wp2_with fail;refine gm.o.mono ?_;rintro y w3 ⟨k2,rfl,gM,gg⟩;have gp:=Hd (gc.o.go (M':=M+Bq n kid (i+1)) (gg.more (Nat.le_of_eq (XD _ _ _))));have gG:Hq (∀ j (hj:j<(hs++[(k2,fnT (kid i))]).length),(hs++[(k2,fnT (kid i))])[j].2=fnT (kid j)):=Hd fun j hj=>by
    rcases VE j hs.length with h|h
    . rw[Ww h];exact gl.o j h
    ·have gy:j=i:=by simp at hj;omega
     subst gy;rw[Wp (by omega)];simp
   clear gg gm gc p0 p1 p2;obtain⟨o3,m3,V3,bt3⟩:=gp.o;have gw:w1.heap.size<=w3.heap.size:=bt3.chg.size;have g0:=Hd bt3;clear bt3;go_upto_region 30 with (at_builtin;refine Cz FO _ rfl _ _ rfl w1.heap.size _ (Au (hs.map Prod.fst)) _ rfl rfl rfl rfl rfl (by exact g0.o.l.own) (by simp[Au];omega) gw ?_;intro v5 w5 gi r1 r2 r3 r4 gt)
   have gx:Hq (BuiS K n Od room w0 mb (fs++(hs++[(k2,fnT (kid i))])) (k2+1) (M+Bq n kid (i+1)) o w1 v5 ((hs++[(k2,fnT (kid i))]).map Prod.fst) w5):=Hd (by
    have:=BuiS.app g0.o gi r1 r2 r3 r4 gt hw0;rw[VH] at this;rw[VU];exact this)
   clear gi r1 r2 r3 r4 gt g0 gp;go_wp2_with fail;go_roundw
   case rel=>exact⟨i+1,hs++[(k2,fnT (kid i))],k2+1,by omega,by go_num,by simp;omega,by
    show k2+1+2*((i+1:Nat):Int)<=nx+3*(((sumN i fun i=>(kid i).size)+(kid i).size:Nat):Int)
    omega,gG,gx⟩
   case measure=>simp[intOf];omega
  ·obtain rfl:i=nk:=by omega
   have gz:¬ (i:Int)<i:=by omega
   have f0:=ga.o.goes.cell (p:=Av w.heap.size) d0 on;have gv:=HSZ.o;have gH:nxi+2*i+3<=nx+3*E.size:=by omega
   have hnk:=gE.o;have gK:1<=i:=by omega
   clear gv H5 IH HSZ HKS HPOS;obtain⟨o1,m1,V1,bt⟩:=ga.o;have gc:=Hd bt;clear bt;subst hnk;obtain⟨⟨k0,F0⟩,⟨k1',F1⟩,⟨k2',F2⟩,rfl⟩:=SM gA;obtain⟨g,cp,rfl,g8⟩:=ga.o.cellsN (i:=3) rfl (by omega);have c0:wy.cell? (Av g)=some (Iv k0):=g8 0 (by omega);have c1:wy.cell? (Aw g 1)=some (Iv k1'):=g8 1 (by omega);have c2:wy.cell? (Aw g 2)=some (Iv k2'):=g8 2 (by omega);have HF:Hq (Bc F0 F1 F2=fnT E):=Hd (by rw[hF,<- gl.o 0 (by simp),<- gl.o 1 (by simp),<- gl.o 2 (by simp)];rfl);have HI:Hq (∀ W,W=wy.drew->Cl 94 #[Pt mb,Iv k0,Iv k1',Iv k2'] W fun x w''=>x=.returned (.tuple #[Iv nxi,Iv 0])/\Goes K n Od room w0 mb (fs++[(k0,F0),(k1',F1),(k2',F2)]++[(nxi,Bc F0 F1 F2)]) (nxi+1) (NoW (M+Bq n kid 3+(2^n-1))) o1 wy w'') :=
    Hd fun W hW=>by subst hW;exact IL HKK.o (gc.o.refl.below (Am wy 1)) (by omega) (by have:=HEP.o;have:=HCK.o 3;have:=HME.o;omega) (by simp) (by simp) (by simp)
   clear g8;go_upto_region 36 with fail;refine AJ (fun W:Wd=>W.cell? (Av g)=some (Iv k0)/\W.cell? (Aw g 1)=some (Iv k1')/\W.cell? (Aw g 2)=some (Iv k2')) false 16
    [(0,false),(1,false),(2,false),(3,false),(4,false),(5,false),(6,false),(7,false),(8,false),(9,false),(10,true),(11,false),(12,false),(13,false),(14,false),(15,false)] (by kernel_rfl) (by kernel_rfl) ⟨c0,c1,c2⟩ ?_
   simp only[planned,AH]
   iterate 10
    refine Aq rfl ?_;apply Exists.intro;refine⟨fun w' hw=>?_,?_⟩
    . obtain⟨h1,h2,h3⟩:=hw;go_simp;rfl
    simp only[Ab]
   refine BH (R:=fun v w'=>v=.tuple #[Iv nxi,Iv 0]/\Goes K n Od room w0 mb (fs++[(k0,F0),(k1',F1),(k2',F2)]++[(nxi,Bc F0 F1 F2)]) (nxi+1) (NoW (M+Bq n kid 3+(2^n-1))) o1 wy w') rfl (by go_simp) ((HI.o _ rfl).mono (fun e w' he=>?_)) ?_
   . obtain⟨rfl,q2⟩:=he;have hb:=gc.o.go q2;obtain⟨g',cp',ev,g9⟩:=hb.cellsN (i:=3) rfl (by omega);cases ev;exact⟨_,rfl,⟨g9 0 (by omega),g9 1 (by omega),g9 2 (by omega)⟩,rfl,q2⟩
   rintro v w3 ⟨d0',d1',d2'⟩ ⟨rfl,q2⟩;obtain⟨o3,m3,V3,bt3⟩:=gc.o.go q2;have g0:=Hd bt3;clear q2 HI bt3 c0 c1 c2 ga;simp only[Ab]
   iterate 5
    refine Aq rfl ?_;apply Exists.intro;refine⟨fun w' hw=>?_,?_⟩
    . obtain⟨h1,h2,h3⟩:=hw;go_simp;rfl
    simp only[Ab]
   refine Bs ?_;have HD:Hq (∀ W T,Bw w3 W->T=W.alloc (.cells #[Iv k0,Iv k1',Iv k2'] 3)->Cl 118 #[Pt mb,.slice (some (Av W.heap.size)) 3 3] T fun x w''=>x=.returned (Iv 0)/\Goes K n Od room w0 mb (fs++[(nxi,Bc F0 F1 F2)]) (nxi+1) (NoW (M+Bq n kid 3+(2^n-1))) o3 w3 w'') :=
    Hd fun W T hW hT=>Gi HKK.o (hs:=[(k0,F0),(k1',F1),(k2',F2)]) (r:=[(nxi,Bc F0 F1 F2)]) (by have:=g0.o.refl;rw[VH] at this;exact this.below hW) HB2.o (by omega) (by simp) hT
   go_upto_region 37 with fail;refine AJ (fun W:Wd=>W.cell? (Av g)=some (Iv k0)/\W.cell? (Aw g 1)=some (Iv k1')/\W.cell? (Aw g 2)=some (Iv k2')) false 20
    [(0,false),(1,false),(2,false),(3,false),(4,false),(5,false),(6,false),(7,false),(8,false),(9,false),(10,false),(11,false),(12,false),(13,false),(14,true),(15,true),(16,false),(17,false),(18,false),(19,false)] (by kernel_rfl) (by kernel_rfl) ⟨d0',d1',d2'⟩ ?_
   simp only[planned,AH]
   iterate 4
    refine Aq rfl ?_;apply Exists.intro;refine⟨fun w' hw=>?_,?_⟩
    . obtain⟨h1,h2,h3⟩:=hw;go_simp;rfl
    simp only[Ab]
   iterate 10
    refine A9 true (by go_simp) ?_;apply Exists.intro;refine⟨fun gB w' hw=>?_,?_⟩
    . obtain⟨h1,h2,h3⟩:=hw;go_simp;rfl
    simp only[Ab]
   have gn:=Ah w3.drew (.cells #[Iv k0,Iv k1',Iv k2'] 3);refine SJ (v:=.slice (some (Av w3.heap.size)) 3 3) (w':=w3.drew.alloc (.cells #[Iv k0,Iv k1',Iv k2'] 3)) (by go_simp) (by go_simp) ⟨(gn.cell (p:=Av g) (Af (w:=w3.drew) d0')).trans d0',(gn.cell (p:=Aw g 1) (Af (w:=w3.drew) d1')).trans d1',(gn.cell (p:=Aw g 2) (Af (w:=w3.drew) d2')).trans d2'⟩ ?_;simp only[Ab];refine SK (R:=fun v w'=>v=Iv 0/\Goes K n Od room w0 mb (fs++[(nxi,Bc F0 F1 F2)]) (nxi+1) (NoW (M+Bq n kid 3+(2^n-1))) o3 w3 w') (by go_simp) (by go_simp) ((HD.o w3.drew _ (Am w3 1) rfl).mono (fun e w' he=>?_)) ?_
   . obtain⟨rfl,q2⟩:=he;have hb:=g0.o.go q2;obtain⟨g',cp',ev,g9⟩:=hb.cellsN (i:=3) rfl (by omega);cases ev;exact⟨_,rfl,⟨g9 0 (by omega),g9 1 (by omega),g9 2 (by omega)⟩,rfl,q2⟩
   rintro v w4-⟨rfl,q2⟩;have gF:=Hd (HQ.o nxi _ w4 _ HF.o (by omega) (by have:=HEP.o;have:=HCK.o 3;omega) (g0.o.go q2).goes);clear q2 HD;simp only[Ab]
   iterate 1
    refine A9 true (by go_simp) ?_;apply Exists.intro;refine⟨fun gB w' hw=>?_,?_⟩
    . obtain⟨h1,h2,h3⟩:=hw;go_simp;rfl
    simp only[Ab]
   iterate 3
    refine Aq rfl ?_;apply Exists.intro;refine⟨fun w' hw=>?_,?_⟩
    . obtain⟨h1,h2,h3⟩:=hw;go_simp;rfl
    simp only[Ab]
   refine Bs ?_;go_wp2_with fail;exact gF.o
end
section
theorem M6 (hK:AO K):∀ (e:ExT) (x:Value) (fs:List (Int×BF)) (nx:Int) (w:Wd) (o:Own) (m:ManD) (V:Nat->BF) (M:Nat),SatE K n Od room w0 mb fs nx w o m V->m.waits=[]/\m.d.pool.many<=M->B2 fs->FW e->(∀ v∈AM e,v<(n:Int))->A5 w0 e x->nx+3*e.size<549755813000->M+e.size*2^n<=room ->
 Cl 59 #[Pt mb,x] w fun y w'=>∃ k:Int,y=.returned (.tuple #[Iv k,.bool true])/\k+3<=nx+3*e.size/\Goes K n Od room w0 mb (fs++[(k,fnT e)]) (k+1) (NoW (M+BZ n e.size)) o w w'
 | .nil,x,fs,nx,w,o,m,V,M,_,_,_,hv,_,_,_,_=>hv.elim
 | .mk op v nk kid,x,fs,nx,w,o,m,V,M,hsat,hwt,hb2,hval,hvars,h,hnx,hroom=>by
   unfold A5 at h;obtain⟨a,c,rfl,h2,h3,h4,h5⟩:=h;obtain⟨v1,v2,v3,v4,v5,v6⟩:=hval;obtain⟨k1,k2,k3⟩:=Mx v1;have hblk:(w.alloc (.cells #[Iv op,Iv v,.slice a nk c] 79)).heap[w.heap.size]?=some (.cells #[Iv op,Iv v,.slice a nk c] 79 (0,0)):=Vv _ _;have hb1:=Ah w (.cells #[Iv op,Iv v,.slice a nk c] 79);have hep:(ExT.mk op v nk kid).size*2^n=2^n+(sumN nk fun i=>(kid i).size)*2^n:=by
    show (1+sumN nk fun i=>(kid i).size)*2^n=_
    rw[Xm,Nat.one_mul]
   have g0:BCtx K n Od room w0 mb fs nx M w (w.alloc (.cells #[Iv op,Iv v,.slice a nk c] 79)) o m V op v nk kid a c (ExT.mk op v nk kid) (fun y w'=>∃ k:Int,y=.returned (.tuple #[Iv k,.bool true])/\k+3<=nx+3*(ExT.mk op v nk kid).size/\Goes K n Od room w0 mb (fs++[(k,fnT (ExT.mk op v nk kid))]) (k+1) (NoW (M+BZ n (ExT.mk op v nk kid).size)) o w w'):=by
    refine⟨Hd hK,Hd h5,Hd fun i hi=>?_,Hd rfl,Hd (M4 fun i=>(kid i).size_pos),Hd fun i x fs' nx' W o' m' V' M' hi q1 q2 q3 q4 q5 q6=>M6 hK (kid i) x fs' nx' W o' m' V' M' q1 q2 q3 (v6 i hi) (fun u hu=>hvars u (by unfold AM;exact WY _ (Mp hi hu))) q4 q5 q6,Hd rfl,Hd (Goes.refl (hsat.below hb1) hwt),Hd (hsat.below hb1),Hd hwt,Hd hb2,Hd ?_,Hd fun i hi=>?_,Hd (M5 n kid),Hd fun i=>Gj n (kid i).size_pos,Hd ⟨hep,Gj n (ExT.size_pos _)⟩,Hd hroom,by omega,hnx,ExT.size_pos _,by simp,by rw[Vt _ _ 0 _ _ _ hblk];rfl,by rw[Vt _ _ 1 _ _ _ hblk];rfl,by rw[Vt _ _ 2 _ _ _ hblk];rfl,hsat.lt.none (Vu _),?_,Xe (by omega),h2,h3⟩
    ·have:=DG (f:=fun i=>(kid i).size) hi
     show _<=1+sumN nk fun i=>(kid i).size
     omega
    . rintro k F W M' rfl hk hm g;exact⟨k,rfl,hk,(g.more hm).after (CJ hb1 o)⟩
    . have h1:=DG (f:=fun i=>(kid i).size) hi;have h2:=Wm (2^n) h1;rw[Xm] at h2;omega
    . have:=hsat.chg.size;simp;omega
   rcases(show op=1\/op=2\/op=3\/(op=5\/op=6\/op=7)\/op=4\/(op=8\/op=9)\/op=10 by omega) with h1|h1|h1|h1|h1|h1|h1
   . exact SN g0 h1 (by subst h1;exact Mo (.inl rfl) v nk kid)
   . exact SO g0 h1 (by subst h1;exact Mo (.inr rfl) v nk kid)
   . have e1:=v2 h1;have e2:=hvars v (by unfold AM;rw[Vw h1];simp);obtain⟨u,rfl⟩:∃ u:Nat,v=u:=⟨v.toNat,by omega⟩;exact SP g0 (u:=u) (by omega) h1 rfl (by subst h1;exact SC u nk kid)
   . exact SQ g0 h1 (S7 h1 v nk kid)
   ·have e:nk=1:=by subst h1;simp[Bg] at v4 v5;omega
    exact SR g0 h1 e (by subst h1;subst e;exact S9 v kid)
   ·have e:nk=2:=by rcases h1 with rfl|rfl<;>(simp[Bg] at v4 v5;omega)
    exact SS g0 h1 e (by subst e;exact SB h1 v kid)
   ·have e:nk=3:=by subst h1;simp[Bg] at v4 v5;omega
    exact SU g0 h1 e (by subst h1;subst e;exact SA v kid)
end
theorem Ar.chgX {o:Own}{a:Option Addr}(h:Ar w a zs)(hc:ChgX C o o' w w')(hn:0<zs.length->∀ x,a=some x->o x.block=none/\¬ C x.block):Ar w' a zs :=
 ⟨h.len,fun k hk=>by
  obtain⟨b,off,rfl,c⟩:=h.cells k hk;have:=hn (by omega) _ rfl;exact⟨b,off,rfl,hc.cell c this.1 this.2⟩⟩
def ArrI (K:Law)(n room:Nat)(w0:Wd)(mb:Nat)(fs:List (Int×BF))(nx:Int)(o:Own)(w:Wd)(m:ManD)(P:List Nat->Prop)(W:Wd):Prop :=
 ∃ o' m' V',SatE K n P room w0 mb fs nx W o' m' V'/\m'.waits=m.waits/\m'.calls=m.calls/\ChgX NoB o o' w W/\(m'.d.pool.many<=m.d.pool.many\/m'.d.pool.many<=fs.length*2^n)
section
variable {o:Own}{P:List Nat->Prop}
theorem ArrI.below (h:ArrI K n room w0 mb fs nx o w m P W)(hb:Bw W W'):ArrI K n room w0 mb fs nx o w m P W':=by
 obtain⟨o',m',V',h1,h2,h3,h4,h5⟩:=h;exact⟨o',m',V',h1.below hb,h2,h3,h4.trans (CJ hb o') (fun _ _ e=>e),h5⟩
theorem ArrI.imp (h:ArrI K n room w0 mb fs nx o w m P W)(hP:∀ l,l.length=n->P l->P' l):ArrI K n room w0 mb fs nx o w m P' W:=by
 obtain⟨o',m',V',h1,h2,h3,h4,h5⟩:=h;exact⟨o',m',V',h1.withOd (hP _ h1.vars h1.od),h2,h3,h4,h5⟩
theorem ArrI.swap (h:ArrI K n room w0 mb fs nx o w m P W)(hk1:k+1<n)(hn:nx<=549755813888)(hr:3*(fs.length*2^n)<=room)(hP:∀ l,l.length=n->P l->P' (exL l k)) :
 Cl 113 #[Pt mb,Iv k] W fun e w'=>e=.returned (Iv 0)/\ArrI K n room w0 mb fs nx o w m P' w':=by
 obtain⟨o',m',V',h1,h2,h3,h4,h5⟩:=h;refine(Me h1 hk1 hn hr).mono ?_;rintro e w' ⟨rfl,o2,m2,V2,s⟩;refine⟨rfl,o2,m2,V2,s.sat.withOd ?_,s.waits.trans h2,s.calls.trans h3,h4.trans (ChgX.of_chg s.chg NoB) (fun _ _ e=>e),.inr (s.sat.few s.dead)⟩;rw[s.sat.od,Mu];exact hP _ h1.vars h1.od
theorem SV (h:SatE K n Od room w0 mb fs nx w o m V)(hn:nx<=549755813888)(hr:3*(fs.length*2^n)<=room){a:Option Addr}(hz:Ar w a zs)(hno:0<zs.length->∀ x,a=some x->o x.block=none)(hp:zs.length=0\/Gf zs n) :
 Cl 58 #[Pt mb,.slice a zs.length c] w fun x w'=>x=.returned (.bool true)/\ArrI K n room w0 mb fs nx o w m (fun l=>∀ j,j<zs.length->((l.getD j 0:Nat):Int)=at0 zs j) w':=by
 have gI:=hz.len;have hn64:n<=64:=by have:=h.ok.store.small;rw[h.vars] at this;exact this
 have HZ:Hq (∀ W P,ArrI K n room w0 mb fs nx o w m P W->Ar W a zs):=Hd fun W P ⟨o',m',V',_,_,_,h4,_⟩=>hz.chgX h4 fun h0 x hx=>⟨hno h0 x hx,fun e=>e⟩
 have ge:Hq (∀ W P,ArrI K n room w0 mb fs nx o w m P W->Cl 19 #[Pt mb] W fun x w'=>∃ (a:Option Addr) (c:Nat) (l:List Nat),x=.returned (.slice a n c)/\l.length=n/\Ar w' a (l.map Int.ofNat)/\P l/\(∀ v,v<n->∃ i,i<n/\l.getD i 0=v)/\(∀ i j,i<n->j<n->l.getD i 0=l.getD j 0->i=j)/\Bw W w'/\ArrI K n room w0 mb fs nx o w m (fun l'=>l'=l) w'):=by
  refine Hd fun W P hA=>?_
  obtain⟨o',m',V',h1,h2,h3,h4,h5⟩:=hA;refine(KN h1.is h1.lt (by rw[h1.vars];exact hn64)).mono ?_;rintro x w' ⟨v,rfl,hv,hb⟩;obtain⟨av,cv,rfl,gt,_⟩:=hv.sliceIs (by simp[h1.vars];omega);refine⟨av,cv,m'.d.vars,by rw[VP,h1.vars],h1.vars,gt,h1.od,fun v hv=>?_,fun i j hi hj e=>?_,hb,o',m',V',(h1.below hb).withOd rfl,h2,h3,h4.trans (CJ hb o') (fun _ _ e=>e),h5⟩
  . have:=h1.ok.store.mem (v:=v) (by rw[h1.vars];exact hv);rw[h1.vars] at this;exact this
  . exact h1.ok.store.inj (by rw[h1.vars];exact hi) (by rw[h1.vars];exact hj) e
 have gj:Hq (∀ W P,ArrI K n room w0 mb fs nx o w m P W->∀ (k:Nat),k+1<n->∀ P':List Nat->Prop,(∀ l,l.length=n->P l->P' (exL l k))->Cl 113 #[Pt mb,Iv k] W fun e w'=>e=.returned (Iv 0)/\ArrI K n room w0 mb fs nx o w m P' w') :=
  Hd fun W P hA k hk P' hP=>hA.swap hk hn hr hP
 have HP:=Hd hp;obtain⟨R,hR⟩:=Ex (ArrI K n room w0 mb fs nx o w m:(List Nat->Prop)->Wd->Prop);have gE:Hq (R (fun l=>∀ j,j<0->((l.getD j 0:Nat):Int)=at0 zs j) w):=Hd (by rw[hR];exact⟨o,m,V,h.withOd (fun j hj=>by omega),rfl,rfl,ChgX.of_below (VI _ _) o NoB,.inl (Vu _)⟩);have gB:Hq (∀ P W W',R P W->Bw W W'->R P W'):=Hd (by rw[hR];intro P W W' h1 h2;exact h1.below h2);have gk:Hq (∀ P P' W,R P W->(∀ l,l.length=n->P l->P' l)->R P' W):=Hd (by rw[hR];intro P P' W h1 h2;exact h1.imp h2);rw[<- hR] at HZ ge gj ⊢;clear h hz hno hp hr hn hR
 go_enter func58,ntmps58
 go_wp2_with fail
 go_loopw [5,6,7] (fun s5 s6 s7 wr=>∃ i:Nat,i<=zs.length/\s5=Iv i/\Hq (R (fun l=>∀ j,j<i->((l.getD j 0:Nat):Int)=at0 zs j) wr)) (fun s5 _ _ _=>zs.length-(intOf s5).toNat)
 case atStart=>exact⟨0,VC _,rfl,gE⟩
 case round =>
  obtain⟨i,hi,rfl,HR⟩:=hrel
  by_cases gx:i<zs.length
  ·have gy:(i:Int)<zs.length:=by omega
   have g3:Gf zs n:=by
    rcases HP.o with e|e
    . omega
    . exact e
   have gq:zs.length=n:=g3.len;obtain⟨zi,gr,ezi⟩:=g3.lt i (by omega);have gn:=Hd (ge.o wr _ HR.o);have gp:=Hd g3.inj;clear g3;go_wp2_with fail;refine gn.o.mono ?_;rintro x w3 ⟨av,cv,l,rfl,gh,gi,g8,ga,gc,gA,g6⟩;obtain⟨p,gg,g7⟩:=ga zi gr;have gz:i<=p:=by
    rcases VE p i with h|h
    . exfalso;have e1:=g8 p h;rw[g7,<- ezi] at e1;have:=gp.o i p (by omega) gg e1;omega
    . exact h
   have go:=Hd gi;have gF:=Hd g8;have g5:=Hd g7;have gG:=Hd gc;have gm:=Hd g6;have gP:((n:Int) != (zs.length:Int))=false:=by rw[gq];simp
   obtain⟨bz,oz,ea,cz⟩:=(HZ.o w3 _ g6).cells i gx;subst ea;rw[ezi] at cz;have EZI:=Hd ezi;clear gi g8 g7 gc g6 ga gn gA ezi;go_wp2_with fail
   go_loopw [7] (fun s7 wr=>∃ q:Nat,i<=q/\q<=p/\s7=Iv q/\Hq (Bw w3 wr)) (fun s7 _=>p-(intOf s7).toNat)
   case atStart=>exact⟨i,Vu _,gz,rfl,Hd (VI _ _)⟩
   case round =>
    rename Wd=>wq
    obtain⟨q,gw,gO,rfl,g0⟩:=hrel;have gM:(q:Int)<(n:Int):=by omega
    have g4:q<n:=by omega
    obtain⟨bv,ov,rfl,cq⟩:=(go.o.below g0.o).cells q (by rw[VP,gh];exact g4);have cz':=Cq g0.o cz;rw[Dc (by rw[gh];exact g4)] at cq;obtain⟨y,hy⟩:=Ex (l.getD q 0);rw[<- hy] at cq;have HY:=Hd hy;clear hy;go_upto_region 8 with fail;refine AJ (fun W:Wd=>W.cell? (Aw bv (ov+q))=some (Iv (y:Nat))/\W.cell? (Aw bz (oz+i))=some (Iv (zi:Nat))/\Hq (Bw w3 W)) false 15
     [(0,false),(1,false),(2,false),(3,false),(4,false),(5,false),(6,false),(7,false),(8,false),(9,false),(10,false),(11,false),(12,false),(13,false),(14,false)] (by kernel_rfl) (by kernel_rfl) ⟨cq,cz',Hd (g0.o.trans ((Am wq 1).mono g0.o.size))⟩ ?_
    simp only[planned,AH]
    iterate 5
     refine Aq rfl ?_;apply Exists.intro;refine⟨fun w' hw=>?_,?_⟩
     . obtain⟨h1,h2,_⟩:=hw;go_simp;rfl
     simp only[Ab]
    iterate 9
     refine A9 true (by go_simp) ?_;apply Exists.intro;refine⟨fun gQ w' hw=>?_,?_⟩
     . obtain⟨h1,h2,_⟩:=hw;go_simp;rfl
     simp only[Ab]
    iterate 1
     refine Aq rfl ?_;apply Exists.intro;refine⟨fun w' hw=>?_,?_⟩
     . obtain⟨h1,h2,_⟩:=hw;go_simp;rfl
     simp only[Ab]
    refine Bs ?_
    by_cases gL:q<p
    ·have g9:((y:Int) != (zi:Int))=true:=by
      simp only[bne_iff_ne,ne_eq];intro e;have e2:l.getD q 0=l.getD p 0:=by rw[g5.o,<- HY.o];omega
      have:=gG.o q p g4 gg e2;omega
     go_wp2_with fail;go_roundw
     case rel=>exact⟨q+1,by omega,by omega,by go_num,Hd (g0.o.trans ((Am wq 1).mono g0.o.size))⟩
     case measure=>simp[intOf];omega
    ·obtain rfl:q=p:=by omega
     have g9:((y:Int) != (zi:Int))=false:=by
      have:y=zi:=by rw[HY.o,g5.o]
      rw[this];simp
     have gN:((q:Int) == (n:Int))=false:=by simp;omega
     have gl:Hq (R (fun l'=>(∀ j,j<i->((l'.getD j 0:Nat):Int)=at0 zs j)/\l'.getD q 0=zi) wq.drew):=Hd (by
      have h1:=gB.o _ _ _ gm.o (g0.o.trans ((Am wq 1).mono g0.o.size));exact gk.o _ _ _ h1 fun l' _ e=>by subst e;exact⟨gF.o,g5.o⟩)
     rw[g9];clear gm g0 go cq cz cz' g9;go_wp2_with fail
     go_loopw [4,7] (fun s4 s7 wr=>∃ q:Nat,i<=q/\q<n/\s7=Iv q/\Hq (R (fun l'=>(∀ j,j<i->((l'.getD j 0:Nat):Int)=at0 zs j)/\l'.getD q 0=zi) wr)) (fun _ s7 _=>(intOf s7).toNat)
     case atStart=>exact⟨q,gw,g4,rfl,gl⟩
     case round =>
      clear gl HY g5
      rename Wd=>wt
      obtain⟨t,gK,gv,rfl,gd⟩:=hrel
      by_cases gJ:i<t
      ·obtain⟨t',rfl⟩:∃ t',t=t'+1:=⟨t-1,by omega⟩;have gu:((t'+1:Nat):Int)>i:=by omega
       have HS:=Hd (gj.o wt _ gd.o t' gv (fun l'=>(∀ j,j<i->((l'.getD j 0:Nat):Int)=at0 zs j)/\l'.getD t' 0=zi) (fun l' hl ⟨g1,g2⟩=>⟨fun j hj=>by rw[Mt (by omega) (by omega)];exact g1 j hj,by rw[Ms (by omega)];exact g2⟩));have gH:((t'+1:Nat):Int)-1=(t':Nat):=by omega
       go_upto_region 14 with fail;go_wp2_with fail;refine HS.o.mono ?_;rintro x w5 ⟨rfl,gf⟩;have gD:=Hd gf;clear gf HS gd;go_wp2_with fail;go_roundw
       case rel=>exact⟨t',by omega,by omega,by go_num,gD⟩
       case measure=>simp[intOf]
      ·obtain rfl:t=i:=by omega
       have gC:Hq (R (fun l=>∀ j,j<t+1->((l.getD j 0:Nat):Int)=at0 zs j) wt):=Hd (by
        refine gk.o _ _ _ gd.o fun l' _ ⟨g1,g2⟩ j hj=>?_
        rcases VE j t with h|h
        . exact g1 j h
        ·obtain rfl:j=t:=by omega
         rw[g2,EZI.o])
       have gu:¬ (t:Int)>t:=by omega
       go_wp2_with fail;go_roundw
       case rel=>exact⟨t+1,by omega,by go_num,gC⟩
       case measure=>simp[intOf];omega
  ·have he:i=zs.length:=by omega
   have gy:¬ (i:Int)<zs.length:=by omega
   go_wp2_with fail;go_ret;exact⟨rfl,by rw[<- he];exact HR.o⟩
end
abbrev XL:=@Nat.div_div_eq_div_mul
theorem SX (i n:Nat)(hi:i<=1048576)(hn:n<=16)(w:Wd):Cl 120 #[Iv i,Iv n] w fun x w'=>∃ v,x=.returned v/\OwnB w' w.heap.size v (AP i n)/\Bw w w':=by
 go_enter func120,ntmps120
 go_wp2_with fail
 go_loopw [0,5,6] (fun s0 s5 s6 wr=>∃ j q:Nat,j<=n/\q<=1048576/\s6=Iv j/\s0=Iv q/\Hq (i/2^j=q)/\OwnB wr w.heap.size s5 (AP i j)/\w.heap.size<=wr.heap.size/\Bw w wr) (fun _ _ s6 _=>n-(intOf s6).toNat)
 case atStart=>exact⟨0,i,VC _,hi,rfl,rfl,Hd (by simp),DF _ w _ (Vu _),by simp,Ah w _⟩
 case round =>
  obtain⟨j,q,hj,hq,rfl,rfl,HQ,g0,g5,g1⟩:=hrel
  by_cases g7:j<n
  ·have HB:Hq (((q:Int).tmod 2 == 1)=bitB i j):=by
    refine Hd ?_;rw[tmod2];unfold bitB;rw[HQ.o]
   have g2:=Hd g0;have g3:=Hd g1;clear g0 g1;go_wp2_with (at_builtin;refine Cz Du _ rfl _ _ rfl w.heap.size _ (AL (AP i j)) _ rfl rfl rfl rfl rfl (by exact g2.o) (by simp[AL,FT];omega) g5 ?_;intro v1 w1 g4 e1 e2 e3 e4 g6);go_roundw
   case rel =>
    refine⟨j+1,q/2,by omega,by omega,by go_num,by go_num,Hd ?_,?_,by omega,EM g3.o g2.o e1 e2 e3 e4 g6 g5⟩
    . rw[WZ,<- XL,HQ.o]
    . rw[Ln];unfold OwnB;rw[IM,<- HB.o];exact g4
   case measure=>simp[intOf];omega
  ·have he:j=n:=by omega
   subst he;have g2:=Hd g0;have g3:=Hd g1;clear g0 g1;go_wp2_with fail;go_ret;exact⟨_,rfl,g2.o,g3.o⟩
theorem SY {ST:TypeId}(E:DE T ST z b)(ty:TypeId)(wr:Wd)(base:Nat)(v:Value)(xs:List Value)(y:Value)(hy:y.oneCell'=true)(hown:OwnC T wr base v xs)(hlen:xs.length<1099511627776)(hbase:base<=wr.heap.size) :
 ∃ v' w',(Builtin.append_ #[ST,ST] ty #[v,.slice (some (Av wr.heap.size)) 1 1]).run prog (wr.alloc (.cells #[y] T))=.ok v' w' /\
  OwnC T w' base v' (xs++[y])/\w'.os=wr.os/\w'.tape=wr.tape/\w'.output=wr.output/\wr.heap.size<=w'.heap.size/\BA v v' wr w':=by
 obtain⟨i,hi,hz,g1,g3⟩:=XC E.info;have g2:=E.small;obtain⟨v',w',hr,h1,h2,_,g0⟩:=run_append_own_at (P:=prog) (wr.alloc (.cells #[y] T)) base ST ty T i z 1 b E.under hi hz g1 g3 (by rw[E.one];rfl) (by decide)
  v xs.length xs (hown.alloc _) (Av wr.heap.size) 1 1 [y] rfl (cell_one_new _ _ _) (by intro u hu;simp at hu;subst hu;exact hy) (by unfold maxLen;omega) (by
   have h1:(xs.length+1)*b<=1099511627776*100:=XI (by omega) g2;omega) (by simp;omega)
 refine⟨v',w',hr,?_,h2.os,h2.tape,h2.output,?_,⟨Gz h2,g0.imp id fun e=>⟨_,e,by simp⟩⟩⟩
 . unfold OwnC;rw[Vx];exact h1
 . have:=h2.size;simp at this;omega
theorem OwnC.lower {xs:List Value}(h:OwnC T w base v xs)(hb:b<=base):OwnC T w b v xs:=by
 refine⟨h.1,?_⟩;rcases h.2 with hn|⟨g,cap,cur,rfl,g0,rest⟩
 . exact .inl hn
 . exact .inr ⟨g,cap,cur,rfl,by omega,rest⟩
theorem Ta (e:ExT)(x:Value)(n:Nat)(hn:n<=12)(w:Wd)(hs:e.size<=4096)(hok:okT e 1)(h:A5 w e x) :
 Cl 60 #[x,Iv n] w fun y w'=>∃ v,y=.returned v/\OwnB w' w.heap.size v (tabB n (fnT e))/\Bw w w':=by
 have gv:Hq (∀ W,Bw w W->∀ u,u=x->Cl 51 #[u] W (Bl (Iv 0) W)):=Hd fun W hb u hu=>by
  subst hu
  exact(I1 e _ W hs (h.below hb)).mono (by
   rintro y w' ⟨err,rfl,h1,h2⟩;rw[h1.2 hok];exact⟨rfl,h2⟩)
 have gz:Hq (∀ W,Bw w W->∀ u,u=x->∀ (ls:List Bool) al cl,Cd W al ls->Cl 119 #[u,.slice al ls.length cl] W (Bl (.bool (fnT e (AF ls))) W)):=Hd fun W hb u hu ls al cl hl=>by
  subst hu;exact Mz ls al cl e _ W hok.valid (h.below hb) hl
 have gj:Hq (∀ j,j<=1048576->∀ W,Cl 120 #[Iv (j:Nat),Iv n] W fun x w'=>∃ v,x=.returned v/\OwnB w' W.heap.size v (AP j n)/\Bw W w'):=Hd fun j hj W=>SX j n hj (by omega) W
 have HS:Hq (∀ k,k<=n->2^k<=4096):=Hd fun k hk=>Vy (VX (by omega) (show k<=12 by omega)) (by decide)
 obtain⟨x0,x1,x2,hx,o0,o1,o2⟩:=h.agg;subst hx;obtain⟨w1,g5⟩:=Ex (w.alloc (.cells #[x0,x1,x2] 79));have HW1:Hq (_=w1):=Hd g5.symm;have g7:Hq (Bw w w1):=by rw[g5];exact Hd (Ah _ _)
 have g4:w1.heap[w.heap.size]?=some (.cells #[x0,x1,x2] 79 (0,0)):=by rw[g5];exact Vv _ _
 have hs1:w1.heap.size=w.heap.size+1:=by rw[g5];simp
 have d0:w1.cell? (Av w.heap.size)=some x0:=by rw[Vt _ _ 0 _ _ _ g4];rfl
 have d1:w1.cell? (Aw w.heap.size 1)=some x1:=by rw[Vt _ _ 1 _ _ _ g4];rfl
 have d2:w1.cell? (Aw w.heap.size 2)=some x2:=by rw[Vt _ _ 2 _ _ _ g4];rfl
 obtain⟨L,hL⟩:=Ex (2^n);have gE:=Hd hL;obtain⟨G,hG⟩:=Ex (fun i=>fnT e (AF (AP i n)):Nat->Bool)
 have HG:Hq (∀ i,fnT e (AF (AP i n))=G i):=Hd fun i=>by rw[hG]
 have HT:Hq (tabB n (fnT e)=(List.range L).map G):=Hd (by rw[hL,hG];rfl);have gK:L<=4096:=by rw[hL];exact HS.o n (Vu _)
 rw[HT.o];clear h g5 g4 hG hL
 go_enter func60,ntmps60
 go_upto_region 1 with fail;rw[HW1.o];have gJ:¬ (n:Int)<0:=by omega
 have gH:¬ (n:Int)>12:=by omega
 go_wp2_with fail;refine(gv.o _ g7.o _ rfl).mono ?_;rintro y w2 ⟨rfl,gr⟩;have HB2:=Hd gr;clear gr gv;go_wp2_with fail
 go_loopw [5,6] (fun s5 s6 wr=>∃ k p:Nat,k<=n/\s5=Iv p/\s6=Iv k/\Hq (wr=w2)/\Hq (2^k=p)) (fun _ s6 _=>n-(intOf s6).toNat)
 case atStart=>exact⟨0,1,VC _,rfl,rfl,Hd rfl,Hd rfl⟩
 case round =>
  obtain⟨k,p,hk,rfl,rfl,gg,HP⟩:=hrel;have gI:p<=4096:=by rw[<- HP.o];exact HS.o k hk
  by_cases gm:k<n
  ·go_wp2_with fail;go_roundw
   case rel=>exact⟨k+1,2*p,by omega,by go_num,by go_num,gg,Hd (by rw[WZ,HP.o];omega)⟩
   case measure=>simp[intOf];omega
  ·obtain rfl:k=n:=by omega
   obtain rfl:p=L:=by rw[<- HP.o,gE.o]
   have gB:=gg.o;subst gB;obtain⟨w3,g8⟩:=Ex (wr.alloc (.cells #[] 4));have gt:Hq (_=w3):=Hd g8.symm;have gf:Bw w1 w3:=by rw[g8];exact HB2.o.trans ((Ah _ _).mono HB2.o.size)
   have gh:Hq (OwnB w3 w1.heap.size (.slice (some (Av wr.heap.size)) 0 0) []):=by rw[g8];exact Hd (DF _ _ _ HB2.o.size)
   have gx:=Hd gf;have gk:w1.heap.size<=w3.heap.size:=gf.size;clear g8 gf gm;go_upto_region 9 with fail;rw[gt.o];go_wp2_with fail
   go_loopw [7,8] (fun s7 s8 wr=>∃ j:Nat,j<=p/\s8=Iv j/\Hq (OwnB wr w1.heap.size s7 ((List.range j).map G))/\Hq (Bw w1 wr)/\w1.heap.size<=wr.heap.size) (fun _ s8 _=>p-(intOf s8).toNat)
   case atStart=>exact⟨0,VC _,rfl,gh,gx,gk⟩
   case round =>
    clear gh gx gk gt gg HB2
    rename Wd=>wq
    obtain⟨j,hj,rfl,gu,g3,gC⟩:=hrel
    by_cases gm:j<p
    ·have e0:=Cq g3.o d0;have e1:=Cq g3.o d1;have e2:=Cq g3.o d2;have HL:=Hd (gj.o j (by omega) wq.drew);go_upto_region 12 with fail;refine AJ (fun W:Wd=>W.cell? (Av w.heap.size)=some x0/\W.cell? (Aw w.heap.size 1)=some x1/\W.cell? (Aw w.heap.size 2)=some x2) false 9
      [(0,false),(1,false),(2,false),(3,false),(4,true),(5,true),(6,true),(7,true),(8,false)] (by kernel_rfl) (by kernel_rfl) ⟨e0,e1,e2⟩ ?_
     simp only[planned,AH]
     iterate 4
      refine Aq rfl ?_;apply Exists.intro;refine⟨fun w' hw=>?_,?_⟩
      . obtain⟨h1,h2,h3⟩:=hw;go_simp;rfl
      simp only[Ab]
     refine BH (R:=fun v w'=>B6 w' v (AP j k)/\Bw wq w') rfl (by go_simp) (HL.o.mono (fun e w' he=>?_)) ?_
     . obtain⟨v,rfl,q1,q2⟩:=he;have q3:Bw wq w':=(Am wq 1).trans (q2.mono (Am wq 1).size);exact⟨v,rfl,⟨(Cq q3 e0),(Cq q3 e1),(Cq q3 e2)⟩,q1.boolsIs (by rw[FT];omega),q3⟩
     rintro v w4 ⟨f0,f1,f2⟩ ⟨⟨av,cv,rfl,go,-⟩,gq⟩;have gw:=Hd go;have gd:=Hd gq;clear go gq e0 e1 e2 HL;simp only[Ab];refine BH (R:=fun v w'=>v=.bool (G j)/\Bw w4 w') rfl (by go_simp) ((gz.o w4 (g7.o.trans ((g3.o.trans (gd.o.mono g3.o.size)).mono g7.o.size)) _ rfl (AP j k) av cv gw.o).mono (fun e w' he=>?_)) ?_
     . obtain⟨rfl,q3⟩:=he;exact⟨_,rfl,⟨(Cq q3 f0),(Cq q3 f1),(Cq q3 f2)⟩,by rw[HG.o],q3⟩
     rintro v w5 ⟨g0,g1,g2⟩ ⟨rfl,gp⟩;obtain⟨y,hy⟩:=Ex (G j);rw[<- hy];have gD:Hq (AL ((List.range (j+1)).map G)=AL ((List.range j).map G)++[.bool y]):=Hd (by rw[My,IM,hy]);have ga:=gd.o.trans (gp.mono gd.o.size);have gG:=Hd (g3.o.trans (ga.mono g3.o.size));have gi:=Hd (gu.o.below ga);have ge:w1.heap.size<=w5.heap.size:=Vy gC ga.size;clear gp ga f0 f1 f2 hy gw gd;simp only[Ab];have gc:=Ah w5 (.cells #[.bool y] 4);refine E6 (v:=.slice (some (Av w5.heap.size)) 1 1) (w':=w5.alloc (.cells #[.bool y] 4)) rfl (by go_simp) ⟨(Cq gc g0),(Cq gc g1),(Cq gc g2)⟩ ?_;simp only[Ab];obtain⟨v6,w6,gl,g9,q1,q2,q3,q4,gn⟩:=SY Du 90 w5 w1.heap.size _ (AL ((List.range j).map G)) (.bool y) rfl gi.o (by simp[AL];omega) ge;have g6:=EM gG.o gi.o q1 q2 q3 q4 gn ge;refine E6 (v:=v6) (w':=w6) rfl (JY rfl rfl rfl gl) ⟨(Cq g6 d0),(Cq g6 d1),(Cq g6 d2)⟩ ?_;simp only[Ab]
     iterate 1
      refine Aq rfl ?_;apply Exists.intro;refine⟨fun w' hw=>?_,?_⟩
      . obtain⟨h1,h2,h3⟩:=hw;go_simp;rfl
      simp only[Ab]
     refine Bs ?_;have gF:=Hd g6;have gA:=Hd g9;have gy:w1.heap.size<=w6.heap.size:=by omega
     clear g6 g9 q1 q2 q3 q4 gn gl g0 g1 g2 gc;go_wp2_with fail;go_roundw
     case rel=>exact⟨j+1,by omega,by go_num,Hd (by unfold OwnB;rw[gD.o];exact gA.o),gF,gy⟩
     case measure=>simp[intOf];omega
    ·obtain rfl:j=p:=by omega
     have HF:Hq (∃ v,Ending.returned u7=.returned v/\OwnB wq w.heap.size v ((List.range j).map G)/\Bw w wq):=Hd ⟨u7,rfl,gu.o.lower (by omega),g7.o.trans (g3.o.mono g7.o.size)⟩;go_wp2_with fail;go_ret;exact HF.o
section
variable (w:Wd)
theorem Tb (t ty e:TypeId)(i:TypeInfo)(ht:P.underlying t=some (.slice e))(hi:P.info? e=some i)
 (g off sLen sCap:Nat) (cur:Array Value) (hg:w.heap[g]?=some (.cells cur e (0,0)))
 (a:Addr) (m c:Nat) (news:List Value) (hl:news.length=m*i.size) (hnews:∀ j u,news[j]?=some u->w.cell? (a.add j)=some u) (h1:∀ u∈news,u.oneCell'=true)
 (hroom:sLen+m<=sCap) (hfit:off+sLen*i.size+news.length<=cur.size) :
 (Builtin.append_ #[t,t] ty #[.slice (some (Aw g off)) sLen sCap,.slice (some a) m c]).run P w =
  .ok (.slice (some (Aw g off)) (sLen+m) sCap) (w.setRow g (cur.toList.take (off+sLen*i.size)++news++cur.toList.drop (off+sLen*i.size+news.length)).toArray):=by
 have hf:=run_firstCells_some (P:=P) w i.size m a m c news hl hnews;have g0:=run_storeCells_at P g (off+sLen*i.size) e news 0 cur w hg (by simpa using hfit) h1;simp only[XA] at g0;have g1:((Aw g off):Addr).add (sLen*i.size)=(Aw g (off+sLen*i.size)):=by unfold Addr.add;split<;>simp_all
 simp[Builtin.append_,We ht,sizeOf,typeInfo,hi,Builtin.lenOf,hroom,hf,g1,g0]
end
theorem Tc:(prog.info? 77).map (fun i=>(i.zero,i.size,i.bytes))=some (some (.agg #[Iv 0,Iv 0,Iv 0]),3,24):=by kernel_rfl
theorem Td (l:List Ev):∀ (j:Nat) (u:Value),(l.flatMap evL)[j]?=some u->∃ hk:j/3<l.length,(evL (l[j/3]))[j%3]?=some u:=by
 induction l with
 | nil=>intro j u h;simp at h
 | cons e l ih =>
   intro j u h;rw[WQ] at h
   by_cases hj:j<3
   ·rw[VS (by show j<3;exact hj)] at h;have e0:j/3=0:=by omega
    refine⟨by rw[e0];simp,?_⟩;have e1:j%3=j:=by omega
    simp only[e0,e1,List.getElem_cons_zero];exact h
   ·rw[Wk (by show 3<=j;omega)] at h;obtain⟨hk,h2⟩:=ih (j-3) u h;have e0:j/3=(j-3)/3+1:=by omega
    have e1:j%3=(j-3)%3:=by omega
    refine⟨by rw[e0,VO];omega,?_⟩;simp only[e0,e1,List.getElem_cons_succ];exact h2
theorem EvsAt.news {l:List Ev}(h:EvsAt w (some (Aw b off)) l):∀ j u,(l.flatMap evL)[j]?=some u->w.cell? (((Aw b off):Addr).add j)=some u:=by
 intro j u hu;have g0:((Aw b off):Addr).add j=(Aw b (off+j)):=by unfold Addr.add;split<;>simp_all
 obtain⟨hk,h2⟩:=Td l j u hu;obtain⟨b',off',e,c0,c1,c2⟩:=h.cells (j/3) hk;cases e;rw[g0];have hm:j%3<3:=Nat.mod_lt _ (by decide);rcases(by omega:j%3=0\/j%3=1\/j%3=2) with e|e|e<;>rw[e] at h2
 ·have e2:j=j/3*3:=by omega
  rw[e2,c0];exact h2
 ·have e2:j=j/3*3+1:=by omega
  rw[e2,<- XD,c1];exact h2
 ·have e2:j=j/3*3+2:=by omega
  rw[e2,<- XD,c2];exact h2
theorem Te (l:List Ev):∀ u∈l.flatMap evL,u.oneCell'=true:=by
 intro u hu;obtain⟨e,_,h⟩:=XG.1 hu;simp only[evL,Wj,Yk,or_false] at h;rcases h with rfl|rfl|rfl<;>rfl
theorem M7 {o:Own}{l:List Ev}{a:Option Addr}(h:Bf o w v ws)(hlt:Ac o w)(hev:EvsAt w a l)(hsm:ws.length+l.length<=1000)(ty:TypeId) :
 ∃ v' w' o',(Builtin.append_ #[24,24] ty #[v,.slice a l.length c]).run prog w=.ok v' w'/\Bf o' w' v' (ws++l)/\Chg (· = .waits) o o' w w'/\Ac o' w':=by
 obtain⟨i,hi,hz,g3,gc⟩:=XC Tc;have ht:=underlying24
 by_cases h0:l=[]
 ·subst h0;refine⟨v,w,o,?_,by rw[WU];exact h,Chg.refl _ _ _,hlt⟩;rcases h.ex with ⟨rfl,rfl⟩|⟨g,off,cap,cur,rfl,_,_,hn,_⟩
  . cases a<;>simp[Builtin.append_,We ht,sizeOf,typeInfo,hi,Builtin.lenOf,Builtin.firstCells,loadCells,loadCellsFrom]
  . cases a<;>simp[Builtin.append_,We ht,sizeOf,typeInfo,hi,Builtin.lenOf,hn,Builtin.firstCells,storeCells,loadCells,loadCellsFrom]
 ·have ga:0<l.length:=List.length_pos_iff.2 h0;obtain⟨b,off,rfl,_⟩:=hev.cells 0 ga;have g0:=hev.news;have gd:=Te l;have g5:(l.flatMap evL).length=l.length*i.size:=by rw[g3];exact DU l
  have g9:(ws.flatMap evL++l.flatMap evL).length=(ws++l).length*3:=by rw[Vx,DU,DU,Vx];omega
  have mk:∀ (old:Nat),Bf (AI o w.heap.size .waits) (w.drew.alloc (.cells ((ws.flatMap evL).toArray++(l.flatMap evL).toArray++Builtin.zeroCells (Value.agg #[Iv 0,Iv 0,Iv 0]).cells (grownCap w (ws.length+l.length) old 77-(ws.length+l.length))) 77)) (.slice (some (Av w.heap.size)) (ws.length+l.length) (grownCap w (ws.length+l.length) old 77)) (ws++l) /\
   Chg (· = .waits) o (AI o w.heap.size .waits) w (w.drew.alloc (.cells ((ws.flatMap evL).toArray++(l.flatMap evL).toArray++Builtin.zeroCells (Value.agg #[Iv 0,Iv 0,Iv 0]).cells (grownCap w (ws.length+l.length) old 77-(ws.length+l.length))) 77)) /\
   Ac (AI o w.heap.size .waits) (w.drew.alloc (.cells ((ws.flatMap evL).toArray++(l.flatMap evL).toArray++Builtin.zeroCells (Value.agg #[Iv 0,Iv 0,Iv 0]).cells (grownCap w (ws.length+l.length) old 77-(ws.length+l.length))) 77)):=by
   intro old;have gi:=grownCap_ge w (ws.length+l.length) old 77;have g6:grownCap w (ws.length+l.length) old 77<=maxLen:=grownCap_le_maxLen w _ old _ (by unfold maxLen;omega);refine⟨⟨.inr ⟨w.heap.size,0,_,_,by rw[Vx],B0 _ _ _,Vv w.drew _,by rw[Vx];exact gi,g6,?_,?_⟩⟩,((Chg.refl (· = .waits) o w).drewN 1).allocR (w':=w.drewN 1) hlt _ rfl,Ac.allocR (w:=w.drewN 1) hlt _ .waits⟩
   . have e3:(Value.agg #[Iv 0,Iv 0,Iv 0]).cells.size=3:=rfl;simp only[Array.size_append,WR,size_zeroCells,e3,DU,VW];omega
   . simp only[Array.toList_append,List.drop_zero,Xw];rw[List.take_left' g9]
  rcases h.ex with ⟨rfl,rfl⟩|⟨g,off2,cap,cur,rfl,g8,hg,gh,g6,gj,g2⟩
  . have hr:=run_append_nil (P:=prog) w 24 ty 77 i _ ht hi hz (Aw b off) l.length c (l.flatMap evL) g5 g0 ga (by simp at hsm;omega) (by rw[gc];simp at hsm;omega);have hm:=mk 0;simp only[WN,VW,List.flatMap_nil,Ws,Array.empty_append] at hm ⊢;exact⟨_,_,_,hr,hm⟩
  ·by_cases g4:ws.length+l.length<=cap
   ·have g1:off2+ws.length*i.size+(l.flatMap evL).length<=cur.size:=by rw[g5,g3];omega
    have hr:=Tb (P:=prog) w 24 ty 77 i ht hi g off2 ws.length cap cur hg (Aw b off) l.length c (l.flatMap evL) g5 g0 gd g4 g1;refine⟨_,_,o,hr,⟨.inr ⟨g,off2,cap,_,by rw[Vx],g8,setRow_heap w g cur _ _ _ hg,by rw[Vx];exact g4,g6,?_,?_⟩⟩,⟨rfl,rfl,rfl,by simp,fun k _ hk=>setRow_other w g k _ (by rintro rfl;exact hk _ g8 rfl),fun _ _ h=>h,fun _ h=>(h rfl).elim⟩,fun k q hq=>by have:=hlt k q hq;simpa using this⟩
    . simp only[WR,Vx,Wz,XH,Array.length_toList];omega
    ·rw[g3] at g1 ⊢;have e1:(cur.toList.take (off2+ws.length*3)).drop off2=ws.flatMap evL:=by
      rw[<- g2,List.drop_take,Nat.add_sub_cancel_left]
     have e2:off2<=(cur.toList.take (off2+ws.length*3)).length:=by
      have hq:ws.length*3<=cap*3:=Wm _ gh;have gg:off2+ws.length*3<=cur.size:=by clear g1;omega
      have gf:cur.toList.length=cur.size:=Array.length_toList;rw[Wz,gf,Nat.min_eq_left gg];exact XU _ _
     simp only[VH];rw[List.drop_append_of_le_length e2,e1,<- VH,Xw,List.take_left' g9]
   ·have g7:∀ j u,(ws.flatMap evL)[j]?=some u->w.cell? (((Aw g off2):Addr).add j)=some u:=by
     intro j u hu;have ge:((Aw g off2):Addr).add j=(Aw g (off2+j)):=by unfold Addr.add;split<;>simp_all
     rw[ge,Vt w g (off2+j) cur _ _ hg];rw[<- g2,Ya] at hu;split at hu
     . rw[XK] at hu;simpa using hu
     . cases hu
    have hr:=run_append_grow (P:=prog) w 24 ty 77 i _ ht hi hz (Aw g off2) ws.length cap (ws.flatMap evL) (by rw[g3];exact DU ws) g7 (Aw b off) l.length c (l.flatMap evL) g5 g0 (by omega) (by omega) (growslice_fits (by omega) (by rw[gc];omega));exact⟨_,_,_,hr,mk cap⟩
theorem Bf.form {o:Own}(h:Bf o w v ws):∃ a c,v=.slice a ws.length c:=by
 rcases h.ex with ⟨rfl,rfl⟩|⟨g,off,cap,cur,rfl,_⟩
 . exact⟨_,_,rfl⟩
 . exact⟨_,_,rfl⟩
theorem M8 {op:Oper}{vs:Value}(hgd:op.guard=none)(s x:Operand)(t:TypeId)
 (hop:op.op=.call { callee:=.builtin .append,args:=#[s,x],argTypes:=#[t,t] }) (hs:a.eval s=vs) (hx:a.eval x=vx) (hr:(Builtin.append_ #[t,t] op.type #[vs,vx]).run P w=.ok v' w')
 (hK:wpList P ops Q rest (a.put op.dst v') w'):wpList P ops Q (op::rest) a w:=by
 refine wpList_plain hgd fun K g0=>?_
 unfold Oper.wp execOp;simp only[hop,resolve,invoke,builtin,WB,XQ,VZ,List.map_toArray,WG,List.map_nil,hs,hx,hr];exact g0 _ _ hK
theorem A8.setWaits {F:Phi}{o:Own}{s:ManW}(h:A8 F o w mb m s)(hlt:Ac o w){l':List Ev}(hw:Bf o' w' v' l')(hc:Chg (· = .waits) o o' w w'):A8 F o' (w'.setCell (Aw mb 4) v') mb { m with waits:=l' } { s with vw:=v' }:=by
 have key:∀ {g r},o g=some r->r ≠ .man->r ≠ .waits->(w'.setCell (Aw mb 4) v').heap[g]?=w.heap[g]?:=by
  intro g r hg h1 h2;refine(Ay (p:=Aw mb 4) (fun e=>?_) _).trans (hc.same hlt hg h2);have e':g=mb:=e;subst e';have:=h.own;rw[hg] at this;cases this;exact h1 rfl
 refine⟨hc.ext _ _ h.own,?_,h.store.keepR (fun g r hg hr=>key hg (by rintro rfl;simp[Al,Br] at hr) (by rintro rfl;simp[Al,Br] at hr)) hc.ext,h.memo.keep (fun g r hg hr=>key hg (by rintro rfl;rcases hr with e|e<;>cases e) (by rintro rfl;rcases hr with e|e<;>cases e)) hc.ext,hc.ext _ _ h.ownh,h.map.keepB (key h.ownh (by simp) (by simp)),hw.keep (fun g hg=>Ay (p:=Aw mb 4) (fun e=>?_) _) (fun _ h=>h)⟩
 . exact A2 ((hc.same hlt h.own (by simp)).trans h.blk) _
 . have e':g=mb:=e;subst e';have:=hc.ext _ _ h.own;rw[hg] at this;cases this
section
variable {o:Own}
structure Planned (K:Law)(n:Nat)(Od:List Nat->Prop)(room:Nat)(w0:Wd)(mb:Nat)(fs:List (Int×BF))(nx:Int)(o:Own)(w:Wd)(m:ManD)(V:Nat->BF)(l:List Ev)(z:Int)(o':Own)(w':Wd)(m':ManD):Prop where
 sat:SatE K n Od room w0 mb fs nx w' o' m' V
 d:m'.d=m.d
 chg:Chg (fun _=>True) o o' w w'
 no:z≠0->m'.waits=m.waits/\m'.calls=m.calls
 yes:z=0->m'.waits=m.waits++l/\m'.calls=if m.waits=[] then 0 else m.calls
abbrev XE:=@Calls.quiet_of_same
theorem Tf (h:SatE K n Od room w0 mb fs nx w o m V){a:Option Addr}{l:List Ev}(hev:EvsAt w a l)(hno:0<l.length->∀ x,a=some x->o x.block=none)(hwl:m.waits.length<=256) :
 Cl 61 #[Pt mb,.slice a l.length c] w fun e w'=>e=.returned (Iv (Bo n m.waits.length l))/\∃ o' m',Planned K n Od room w0 mb fs nx o w m V l (Bo n m.waits.length l) o' w' m':=by
 obtain⟨Q,hQ⟩:=Ex (fun e w'=>e=.returned (Iv (Bo n m.waits.length l))/\∃ o' m',Planned K n Od room w0 mb fs nx o w m V l (Bo n m.waits.length l) o' w' m':Ending->Wd->Prop)
 rw[<- hQ];have HQ:=Hd hQ;clear hQ;have gI:=hev.len;have hn64:n<=64:=by rw[<- h.vars];exact h.ok.store.small
 obtain⟨s,hs⟩:=h.is;obtain⟨c0,c1,c2,c3,c4,c5,f0⟩:=cells6 hs.blk;obtain⟨av,cv,gj⟩:=hs.waits.form
 have g1:Hq (∀ (z:Int) W,Bw w W->Bo n m.waits.length l=z->z≠0->Q (.returned (Iv z)) W):=Hd (by
  intro z W hb hz h0;rw[HQ.o,hz];exact⟨rfl,o,m,h.below hb,rfl,Chg.of_below hb _ _,fun _=>⟨rfl,rfl⟩,fun e=>(h0 e).elim⟩)
 have HV:Hq (∀ W,Bw w W->Cl 62 #[Pt mb] W fun e w'=>e=.returned (Iv n)/\w'=W):=Hd (fun W hb=>(KL (h.below hb).is).mono fun e w' q=>⟨by rw[q.1,h.vars],q.2.symm⟩);have HI:=Hd hev;have HS:=Hd hs;have HH:=Hd h;have gF:=Hd hno;rw[gj] at c4;have gv:=Hd gj;have gD:=Hd hwl;clear h hs hev hno gj
 by_cases g9:(l.length:Int)>256-m.waits.length
 ·have HF:=Hd (g1.o 18 w (VI _ _) (by unfold Bo;rw[Vw g9]) (by decide))
  go_enter func61,ntmps61
  go_wp2_with fail;exact HF.o
 have HR:Hq (Bo n m.waits.length l=CL n (l.drop 0)):=Hd (by unfold Bo;rw[Vs g9];rfl);obtain⟨P,hP⟩:=Ex (Bo n m.waits.length l);rw[<- hP] at HR g1;have gE:=Hd hP;clear hP;have HM:=Hd g9
 go_enter func61,ntmps61
 go_wp2_with fail
 go_loopw [20] (fun s20 wr=>∃ i:Nat,i<=l.length/\s20=Iv i/\Hq (Bw w wr)/\Hq (P=CL n (l.drop i))) (fun s20 _=>l.length-(intOf s20).toNat)
 case atStart=>exact⟨0,VC _,rfl,Hd (VI _ _),HR⟩
 case round =>
  clear HR;obtain⟨i,hi,rfl,HB,HP⟩:=hrel
  by_cases gg:i<l.length
  ·obtain⟨b,off,rfl,e0,e1,e2⟩:=(HI.o.below HB.o).cells i gg;have gB:(i:Int)<l.length:=by omega
   have HC:Hq (∀ z:Int,CK n l[i]=z->z≠0->P=z):=Hd fun z hz h0=>by rw[HP.o,FY gg,hz,Vs h0]
   have HN:Hq (CK n l[i]=0->P=CL n (l.drop (i+1))):=Hd fun hz=>by rw[HP.o,FY gg,hz,Vw rfl]
   have HE:Hq (CK n l[i]=if l[i].kind<1\/l[i].kind>3 then 11 else if l[i].after<1\/(l[i].kind=2/\(l[i].level<0\/l[i].level>(n:Int)-2)) then 2 else 0):=Hd rfl;obtain⟨ev,hev⟩:=Ex (l[i]);rw[<- hev] at e0 e1 e2 HC HN HE;obtain⟨af,ki,le⟩:=ev;dsimp only at e0 e1 e2 HE;clear hev HP c0 c1 c2 c3 c4 c5 f0;obtain⟨W,hW⟩:=Ex (wr.alloc (.cells #[Iv af,Iv ki,Iv le] 77));have gh:Bw w W:=HB.o.trans ((show Bw wr W by rw[hW];exact Ah wr _).mono HB.o.size);obtain⟨bx,gn⟩:∃ q,q=wr.heap.size:=⟨_,rfl⟩;have hx:W.heap[bx]?=some (.cells #[Iv af,Iv ki,Iv le] 77 (0,0)):=by rw[hW,gn];exact Vv wr _
   have b0:W.cell? (Av bx)=some (Iv af):=by rw[Vt W _ 0 _ _ _ hx];rfl
   have b1:W.cell? (Aw bx 1)=some (Iv ki):=by rw[Vt W _ 1 _ _ _ hx];rfl
   have b2:W.cell? (Aw bx 2)=some (Iv le):=by rw[Vt W _ 2 _ _ _ hx];rfl
   have HW:=Hd hW;have gG:=Hd gn;have g0:=Hd gh;have g8:Hq (∀ q,Cl 62 #[Pt mb] (W.drewN q) fun e w'=>e=.returned (Iv n)/\w'=W.drewN q):=Hd (fun q=>HV.o _ (gh.trans ((Am W q).mono gh.size)));have gi:=Hd gg;clear hW gn gh hx;go_upto_region 8 with fail;rw[<- HW.o,<- gG.o];have gz:ki<1\/ki>3\/(ki=2)\/(ki=1\/ki=3):=by omega
   rcases gz with hk|hk|hk|hk
   . have HF:=Hd (g1.o 11 W g0.o (HC.o 11 (by rw[HE.o,Vw (.inl hk)]) (by decide)) (by decide));go_wp2_with fail;exact HF.o
   ·have HF:=Hd (g1.o 11 W g0.o (HC.o 11 (by rw[HE.o,Vw (.inr hk)]) (by decide)) (by decide));have gA:¬ ki<1:=by omega
    go_wp2_with fail;exact HF.o
   ·by_cases ha:af<1
    ·have HF:Hq (∀ q,Q (.returned (Iv 2)) (W.drewN q)):=Hd (fun q=>g1.o 2 _ (g0.o.trans ((Am W q).mono g0.o.size)) (HC.o 2 (by rw[HE.o,Vs (by omega),Vw (.inl ha)]) (by decide)) (by decide));subst hk;go_upto_region 10 with fail
     go_quiet (with_reducible exact XE (g8.o _))
     go_wp2_with fail;exact HF.o _
    ·by_cases gy:le<0
     ·have HF:Hq (∀ q,Q (.returned (Iv 2)) (W.drewN q)):=Hd (fun q=>g1.o 2 _ (g0.o.trans ((Am W q).mono g0.o.size)) (HC.o 2 (by rw[HE.o,Vs (by omega),Vw (.inr ⟨hk,.inl gy⟩)]) (by decide)) (by decide));subst hk;go_upto_region 10 with fail
      go_quiet (with_reducible exact XE (g8.o _))
      go_wp2_with fail;exact HF.o _
     ·by_cases gc:le>=(n:Int)-1
      ·have HF:Hq (∀ q,Q (.returned (Iv 2)) (W.drewN q)):=Hd (fun q=>g1.o 2 _ (g0.o.trans ((Am W q).mono g0.o.size)) (HC.o 2 (by rw[HE.o,Vs (by omega),Vw (.inr ⟨hk,.inr (by omega)⟩)]) (by decide)) (by decide));subst hk;go_upto_region 10 with fail
       go_quiet (with_reducible exact XE (g8.o _))
       go_wp2_with fail;exact HF.o _
      ·have gd:=Hd (HN.o (by rw[HE.o,Vs (by omega),Vs (by omega)]));subst hk;go_upto_region 10 with fail
       go_quiet (with_reducible exact XE (g8.o _))
       have gp:=Hd (g0.o.trans ((Am W nq).mono g0.o.size));go_wp2_with fail;go_roundw
       case rel=>exact⟨i+1,XB gi.o,by go_num,gp,gd⟩
       case measure =>
        have:=gi.o;simp[intOf];omega
   ·have gA:¬ ki<1:=by omega
    have gK:¬ ki>3:=by omega
    have gJ:(ki == 2)=false:=by simp;omega
    by_cases ha:af<1
    ·have HF:Hq (∀ q,Q (.returned (Iv 2)) (W.drewN q)):=Hd (fun q=>g1.o 2 _ (g0.o.trans ((Am W q).mono g0.o.size)) (HC.o 2 (by rw[HE.o,Vs (by omega),Vw (.inl ha)]) (by decide)) (by decide));clear hk;go_upto_region 10 with fail
     go_quiet (with_reducible exact XE (g8.o _))
     go_wp2_with fail;exact HF.o _
    ·have gd:=Hd (HN.o (by rw[HE.o,Vs (by omega),Vs (by omega)]));clear hk;go_upto_region 10 with fail
     go_quiet (with_reducible exact XE (g8.o _))
     have gp:=Hd (g0.o.trans ((Am W nq).mono g0.o.size));go_wp2_with fail;go_roundw
     case rel=>exact⟨i+1,XB gi.o,by go_num,gp,gd⟩
     case measure =>
      have:=gi.o;simp[intOf];omega
  ·have he:i=l.length:=by omega
   have gB:¬ (i:Int)<l.length:=by omega
   have gd:Hq (P=0):=Hd (by rw[HP.o,he,List.drop_length];rfl);clear he;have hs':=HS.o.below HH.o.lt HB.o;have g3:=HH.o.lt.mono HB.o.size;have gq:m.waits.length+l.length<=1000:=by have:=HM.o;have:=gD.o;omega
   have go:Hq (∀ (cl:Int) (W:Wd) (hm:A8 (K m.d V) o W mb { m with calls:=cl } s) (hl:Ac o W) (hc:Chg (fun _=>True) o o w W) (v':Value) (W':Wd) (o':Own),cl=(if m.waits=[] then 0 else m.calls)->Bf o' W' v' (m.waits++l)->Chg (· = .waits) o o' W W'->Ac o' W'->Q (.returned (Iv 0)) (W'.setCell (Aw mb 4) v')):=Hd (by
    intro cl W hm hl hc v' W' o' gC hw gm gx;rw[HQ.o,<- gE.o,gd.o];have gw:=hm.setWaits hl hw gm;have gt:Chg (fun _=>True) o o' w (W'.setCell (Aw mb 4) v'):=(hc.trans gm.any).setCell (p:=Aw mb 4) (gm.ext _ _ hm.own) trivial _;exact⟨rfl,o',{ m with waits:=m.waits++l,calls:=cl },⟨⟨_,gw⟩,gx.mono (by simp[World.setCell]),⟨HH.o.ok.store,⟨HH.o.ok.handles.nodup,HH.o.ok.handles.zero,HH.o.ok.handles.one,HH.o.ok.handles.lt,HH.o.ok.handles.next,HH.o.ok.handles.ok,HH.o.ok.handles.len,HH.o.ok.handles.refs⟩⟩,HH.o.vars,HH.o.od,HH.o.room,HH.o.next,HH.o.hs,HH.o.chg.lower (ChgX.of_chg gt NoB) (fun _ e=>e.elim)⟩,rfl,gt,fun e=>(e rfl).elim,fun _=>⟨rfl,gC⟩⟩)
   have ge:=HI.o.below HB.o;clear c0 c1 c2 c3 c4 c5 f0;obtain⟨c0,c1,c2,c3,c4,c5,f0⟩:=cells6 hs'.blk
   by_cases hw0:m.waits=[]
   ·have hz:m.waits.length=0:=by rw[hw0];rfl
    have HZ:=Hd hz;have g7:A8 (K m.d V) o (wr.setCell (Aw mb 5) (Iv 0)) mb { m with calls:=0 } s:=hs'.field rfl rfl rfl rfl rfl (hs'.waits) rfl;have gu:Chg (fun _=>True) o o w (wr.setCell (Aw mb 5) (Iv 0)):=(Chg.of_below HB.o _ _).setCell (p:=Aw mb 5) hs'.own trivial _;have gc:Ac o (wr.setCell (Aw mb 5) (Iv 0)):=g3.mono (by simp[World.setCell])
    have gr:EvsAt (wr.setCell (Aw mb 5) (Iv 0)) a l:=⟨ge.len,fun k hk=>by
     obtain⟨b,off,e,q0,q1,q2⟩:=ge.cells k hk;have gl:mb≠b:=by
      rintro rfl;have:=gF.o (by omega) _ e;have h2:=hs'.own;rw[h2] at this;cases this
     exact⟨b,off,e,BP q0 (.inl gl),BP q1 (.inl gl),BP q2 (.inl gl)⟩⟩
    obtain⟨v',w2,o2,g2,g4,g5,ga⟩:=M7 (c:=c) g7.waits gc gr gq 24;obtain⟨av2,cv2,gk⟩:=g4.form;subst gk;have HF:=Hd (go.o 0 _ g7 gc gu _ w2 o2 (by rw[Vw hw0]) g4 g5 ga);obtain⟨k0,k1,k2,k3,k4,k5,kf⟩:=cells6 g7.blk;have g6:=(g5.same gc g7.own (by simp)).trans g7.blk;obtain⟨j0,j1,j2,j3,j4,j5,jf⟩:=cells6 g6;rw[gv.o,hz] at c4 k4 g2;clear hs' g3 g7 gu gc gr g4 g5 ga ge hw0 g6 k0 k1 k2 k3 k5 kf;have gf:=Hd g2;clear g2;go_upto_region 15 with fail;go_wp2_with (refine M8 rfl _ _ _ rfl rfl rfl gf.o ?_);have hq:=HF.o;rw[Vx,HZ.o,VW] at hq;exact hq
   ·have hz:0<m.waits.length:=List.length_pos_iff.2 hw0;have gH:((m.waits.length:Int) == 0)=false:=by rw[WT];omega
    obtain⟨v',w2,o2,g2,g4,g5,ga⟩:=M7 (c:=c) hs'.waits g3 ge gq 24;obtain⟨av2,cv2,gk⟩:=g4.form;subst gk;have HF:=Hd (go.o m.calls _ hs' g3 (Chg.of_below HB.o _ _) _ w2 o2 (by rw[Vs hw0]) g4 g5 ga);have g6:=(g5.same g3 hs'.own (by simp)).trans hs'.blk;obtain⟨j0,j1,j2,j3,j4,j5,jf⟩:=cells6 g6;rw[gv.o] at c4 g2;clear hs' g3 g4 g5 ga ge hw0 g6 hz;have gf:=Hd g2;clear g2;go_upto_region 15 with fail;go_wp2_with (refine M8 rfl _ _ _ rfl rfl rfl gf.o ?_);have hq:=HF.o;rw[Vx] at hq;exact hq
end
section
variable {o:Own}
theorem IQ (h:n<=16):2^n<=1000000:=Vy (VX (by omega) h) (by decide)
abbrev SufW (ws0:List Ev):List Ev->Int->Prop:=fun ws _=>ws <:+ ws0
theorem Tg (hK:AO K)(h:SatE K n (fun _=>True) room w0 mb fs nx w o m V)(hw:m.waits <:+ ws0)(hn:nx<=549755813888)(hr:(fs.length+1)*2^n<=room)(hf:(kf,F)∈fs)(hg:(kg,G)∈fs)(hh:(kh,H)∈fs) :
 Cl 94 #[Pt mb,Iv kf,Iv kg,Iv kh] w fun x w''=>x=.returned (.tuple #[Iv nx,Iv 0])/\Goes K n (fun _=>True) room w0 mb (fs++[(nx,Bc F G H)]) (nx+1) (W2 (SufW ws0)) o w w'':=by
 refine(Le hK h ws0 hw none (fun _ e=>by cases e) (fun _ e=>by cases e) (fun ev _=>LX hn ev) (by omega) hf hg hh).mono ?_;rintro x w'' hp;obtain⟨o2,m2,V2,q1,q2,q3,q4⟩:=Mh hp (Nat.sub_le _ _) hr;exact⟨q3,o2,m2,V2,q1,q2,q4⟩
end
def Bi (n:Nat):Nat:=4*2^(2*n)+192*2^n
theorem Th (n:Nat)(hn:n<=8)(w:Wd):Cl 112 #[Iv n,Iv 40] w (Sm (Iv (Bi n)) w):=by
 have HB:Hq (∀ (z:Int) (k:Nat),z=k->k<=16->Cl 158 #[Iv z] w (Sm (Iv (2^k:Nat)) w)):=Hd fun z k e hk=>by subst e;exact I0 k (by omega) w
 have hA:2^(2*n)<=65536:=Vy (VX (by omega) (show 2*n<=16 by omega)) (by decide);have hB:2^n<=65536:=Vy (VX (by omega) (show n<=16 by omega)) (by decide);have g0:=Hd (fun z e=>HB.o z (2*n) e (by omega));have HB2:=Hd (fun z e=>HB.o z n e (by omega));unfold Bi;obtain⟨a,ha⟩:=Ex (2^(2*n));obtain⟨b,hb⟩:=Ex (2^n);rw[<- ha] at hA g0 ⊢;rw[<- hb] at hB HB2 ⊢;clear ha hb HB
 go_enter func112,ntmps112
 go_wp2_with fail;refine(g0.o _ (by omega)).mono ?_;rintro x w' ⟨rfl,rfl⟩;go_wp2_with fail;refine(HB2.o _ (by omega)).mono ?_;rintro x w' ⟨rfl,rfl⟩;go_wp2_with fail;go_ret;exact⟨by congr 2,rfl⟩
theorem Ti (n:Nat)(hn:n<=8)(w:Wd):Cl 57 #[Iv n,Iv 40] w (Sm (Iv (Bi n)) w):=by
 have HE:=Hd (Th n hn w)
 go_enter func57,ntmps57
 go_wp2_with fail;refine HE.o.mono ?_;rintro x w' ⟨rfl,rfl⟩;go_wp2_with fail;go_ret;exact⟨rfl,rfl⟩
theorem Tj (hn:n<=6):1<=Bi n/\Bi n<=1048576:=by
 have h1:2^(2*n)<=4096:=Vy (VX (by omega) (show 2*n<=12 by omega)) (by decide);have h2:2^n<=64:=Vy (VX (by omega) hn) (by decide);have h3:0<2^n:=Xe (by omega);unfold Bi;omega
theorem M9 (hk:k<=192):k*2^n<=Bi n:=by
 have:=Wm (2^n) hk;unfold Bi;omega
theorem Tk {s:Nat}(hn:1<=n)(hs:s<=40)(hj:j<5):2*2^n+j*(39*2^n+1)+s*2^n<=Bi n:=by
 have h1:=Wm (2^n) hs;have h2:=Wm (39*2^n+1) (Nat.le_of_lt_succ hj);have h3:2^1<=2^n:=VX (by omega) hn;have h4:2^(n+1)<=2^(2*n):=VX (by omega) (by omega);rw[WZ] at h4;unfold Bi;omega
theorem Tl {s:Nat}(hs:s<=40)(h1:1<=s)(h:k<=2*2^n+j*(39*2^n+1)+BZ n s):k<=2*2^n+(j+1)*(39*2^n+1):=by
 have h2:=Gj n h1;have h3:=Wm (2^n) hs;rw[Xm];have h4:0<2^n:=Xe (by omega);omega
theorem Tm (hj:j<=5)(h:k<=2*2^n+j*(39*2^n+1))(hn:2<=n):k+7<=Bi n:=by
 have h2:=Wm (39*2^n+1) hj;have h3:2^2<=2^n:=VX (by omega) hn;have h4:2^(n+2)<=2^(2*n):=VX (by omega) (by omega);rw[Nat.pow_add] at h4;unfold Bi;omega
def two:List (Int×BF):=[(0,fun _=>false),(1,fun _=>true)]
theorem MA:B2 two:=⟨by simp[two],by simp[two]⟩
theorem MB (n room:Nat)(w:Wd)(hn:n<=64)(h1:1<=room)(h2:room<=1048576) :
 Cl 39 #[Iv n,Iv room] w fun x w'=>∃ mb,x=.returned (.tuple #[Pt mb,Iv 0])/\∃ o m V,SatE K n (fun _=>True) room w mb two 2 w' o m V/\m.waits=[]/\m.calls=0/\m.d.pool.many=0:=by
 refine(Qi (F:=K (man0 n room).d (fun _ _=>true)) (fun _=>none) n room w (fun k r h=>by cases h) hn h1 h2).mono ?_;rintro x w1 ⟨mb,o1,rfl,g0,g2,g1,_⟩;exact⟨mb,rfl,o1,man0 n room,fun _ _=>true,⟨g0,g1,Qh n room hn,by simp[man0,store0],trivial,by simp[man0,store0,pool0],rfl,by simp[man0,two,ef];constructor<;>rfl,ChgX.of_chg g2 NoB⟩,rfl,rfl,rfl⟩
def OrdP (zs:List Int)(l:List Nat):Prop:=∀ j,j<zs.length->((l.getD j 0:Nat):Int)=at0 zs j
def SetP (K:Law)(q:AskD)(n:Nat)(w:Wd)(y:Ending)(w':Wd):Prop :=
 ∃ mb vl vx wb hs nx,y=.returned (.tuple #[Pt mb,vl,vx,.bool true])/\Bw w wb/\hs.map Prod.snd=q.es.map fnT/\nx<=1000/\∃ o m V,LawT K n (OrdP q.order) (Bi n) wb mb (two++hs) nx (fun ws c=>ws=q.plan/\c=0) hs hs w' o m V vl vx/\(2<=n->m.d.pool.many+7<=Bi n)
def SetI (K:Law)(q:AskD)(n:Nat)(wb:Wd)(mb:Nat)(j:Nat)(s8 s9:Value)(W:Wd):Prop :=
 ∃ hs nx,hs.map Prod.snd=(q.es.take j).map fnT/\nx<=2+120*(j:Int)/\∃ o m V,LawT K n (OrdP q.order) (Bi n) wb mb (two++hs) nx (fun ws c=>ws=[]/\True) hs hs W o m V s8 s9/\m.d.pool.many<=2*2^n+j*(39*2^n+1)
theorem Tn (hK:AO K)(q:AskD)(ao ae ap:Option Addr)(co ce cp:Nat)(w:Wd)(h:AskAt w q ao ae ap)(hsm:Eh q)(n:Nat)(hqn:q.vars=n) :
 Cl 17 #[askV q ao ae ap co ce cp] w (SetP K q n w):=by
 have hM:=hsm.lo;have hO:=hsm.hi;have hP:=hsm.es;have hL:=hsm.plan;have gL:=Hd hsm;have hr:=Hd h;have hu:n<=6:=by omega
 have hy:1<=n:=by omega
 have gD:=Tj hu;obtain⟨Q,hQ⟩:=Ex (SetP K q n w:Ending->Wd->Prop);rw[<- hQ];have HQ:=Hd hQ;obtain⟨w1,gg⟩:=Ex (w.alloc (.cells #[Iv q.vars,.slice ao q.order.length co,.slice ae q.es.length ce,.slice ap q.plan.length cp] 26));have HW1:Hq (_=w1):=Hd gg.symm;have hd:Hq (Bw w w1):=by rw[gg];exact Hd (Ah _ _)
 have g0:w1.heap[w.heap.size]?=some (.cells #[Iv q.vars,.slice ao q.order.length co,.slice ae q.es.length ce,.slice ap q.plan.length cp] 26 (0,0)):=by rw[gg];exact Vv _ _
 have hs1:w1.heap.size=w.heap.size+1:=by rw[gg];simp
 have gP:=Hd hqn;rw[hqn] at g0 HW1;have d0:w1.cell? (Av w.heap.size)=some (Iv (n:Nat)):=by rw[Vt _ _ 0 _ _ _ g0];rfl
 have d1:w1.cell? (Aw w.heap.size 1)=some (.slice ao q.order.length co):=by rw[Vt _ _ 1 _ _ _ g0];rfl
 have d2:w1.cell? (Aw w.heap.size 2)=some (.slice ae q.es.length ce):=by rw[Vt _ _ 2 _ _ _ g0];rfl
 have d3:w1.cell? (Aw w.heap.size 3)=some (.slice ap q.plan.length cp):=by rw[Vt _ _ 3 _ _ _ g0];rfl
 have gZ:=hqn;unfold askV;rw[gZ];obtain⟨rm,gl⟩:=Ex (Bi n);have gM:=Hd gl;have gN:=Hd (fun W=>Ti n (by omega) W);rw[<- gl] at gN gD;clear h hsm hQ gg g0 gl hqn gZ;have gR:=Hd (MB (K:=K) n rm w1.drew (by omega) gD.1 gD.2)
 go_enter func17,ntmps17
 go_upto_region 1 with fail;rw[HW1.o];refine AJ (fun W:Wd=>W.cell? (Av w.heap.size)=some (Iv (n:Nat))/\True) false 11 [(0,false),(1,false),(2,false),(3,false),(4,true),(5,true),(6,false),(7,false),(8,false),(9,false),(10,false)] (by kernel_rfl) (by kernel_rfl) ⟨d0,trivial⟩ ?_;simp only[planned,AH]
 iterate 4
  refine Aq rfl ?_;apply Exists.intro;refine⟨fun w' hw=>?_,?_⟩
  . obtain⟨h1,_⟩:=hw;go_simp;rfl
  simp only[Ab]
 refine BH (R:=fun v w'=>v=Iv (rm:Nat)/\w'=w1.drew) rfl (by go_simp) ((gN.o _).mono (fun e w' he=>?_)) ?_
 . obtain⟨rfl,rfl⟩:=he;exact⟨_,rfl,⟨d0,trivial⟩,rfl,rfl⟩
 rintro v w'-⟨rfl,rfl⟩;simp only[Ab];refine BH (R:=fun v w'=>∃ mb,v=.tuple #[Pt mb,Iv 0]/\∃ o m V,SatE K n (fun _=>True) rm w1.drew mb two 2 w' o m V/\m.waits=[]/\m.calls=0/\m.d.pool.many=0) rfl (by go_simp) (gR.o.mono (fun e w' he=>?_)) ?_
 . obtain⟨mb,rfl,o,m,V,g5,gU⟩:=he;exact⟨_,rfl,⟨(g5.chg.below0.cell (p:=Av w.heap.size) (Af (w:=w1.drew) d0)).trans d0,trivial⟩,mb,rfl,o,m,V,g5,gU⟩
 rintro v w2-⟨mb,rfl,o,m,V,g5,gV,hD,h2⟩;simp only[Ab]
 iterate 5
  refine Aq rfl ?_;apply Exists.intro;refine⟨fun w' hw=>?_,?_⟩
  . obtain⟨h1,_⟩:=hw;go_simp;rfl
  simp only[Ab]
 refine Bs ?_;obtain⟨wb,g7⟩:=Ex w1.drew;rw[<- g7] at g5;have hb:Hq (Bw w wb):=Hd (by rw[g7];exact hd.o.trans ((Am w1 1).mono hd.o.size));have c0:wb.cell? (Av w.heap.size)=some (Iv (n:Nat)):=by rw[g7];exact d0
 have c1:wb.cell? (Aw w.heap.size 1)=some (.slice ao q.order.length co):=by rw[g7];exact d1
 have c2:wb.cell? (Aw w.heap.size 2)=some (.slice ae q.es.length ce):=by rw[g7];exact d2
 have c3:wb.cell? (Aw w.heap.size 3)=some (.slice ap q.plan.length cp):=by rw[g7];exact d3
 have hR:w.heap.size<wb.heap.size:=Af c0;have gj:=Hd (hr.o.below hb.o);clear g7 gR gN d0 d1 d2 d3 HW1 hs1
 have gT:=Hd (SV (K:=K) g5 (by omega) (by rw[gM.o];have:=M9 (n:=n) (k:=6) (by omega);simp[two];omega) (c:=co) (gj.o.order.below g5.chg.below0) (fun h0 x hx=>by
  obtain⟨b,off,e,hc⟩:=gj.o.order.cells 0 h0;rw[hx] at e;cases e;exact g5.none0 (Af hc)) (by
  rcases XY q.order.length with h0|h0
  . exact .inl h0
  . have:=gL.o.order h0;rw[gP.o] at this;exact .inr (Gg this)))
 have e0:=Cq g5.chg.below0 c0;have e1:=Cq g5.chg.below0 c1;have HWT:=Hd gV;have hI:=Hd h2;clear g5 gV hD h2;go_wp2_with fail;refine gT.o.mono ?_;rintro y w3 ⟨rfl,o3,m3,V3,gc,gy,hn,hE,gF⟩;have ha:Hq (SetI K q n wb mb 0 (.slice none 0 0) (.slice none 0 0) w3):=Hd ⟨[],2,rfl,by omega,o3,m3,V3,⟨by rw[gM.o] at gc;exact gc,MA,⟨by rw[gy,HWT.o],trivial⟩,⟨Iy _ _ _,fun k hk=>by cases hk⟩,⟨⟨[],rfl,Iy _ _ _,fun i v hv=>by simp at hv⟩,fun k hk=>by cases hk⟩⟩,by have:=hI.o;simp[two] at gF;omega⟩;have f2:=Cq gc.chg.below0 c2;clear gc gy hn hE gF gT e0 e1;go_wp2_with fail
 go_loopw [8,9,40] (fun s8 s9 s40 wr=>∃ j:Nat,j<=q.es.length/\s40=Iv j/\Hq (SetI K q n wb mb j s8 s9 wr)) (fun _ _ s40 _=>q.es.length-(intOf s40).toNat)
 case atStart=>exact⟨0,VC _,rfl,ha⟩
 case round =>
  clear ha f2
  rename Wd=>wy
  obtain⟨j,hj,rfl,HI⟩:=hrel;obtain⟨hs,nx,gk,hnx,hz⟩:=HI.o;obtain⟨o0,m0,V0,gm,gG⟩:=hz;have gw:Hq (∃ o m V,LawT K n (OrdP q.order) (Bi n) wb mb (two++hs) nx (fun ws c=>ws=[]/\True) hs hs wy o m V u8 u9/\m.d.pool.many<=2*2^n+j*(39*2^n+1)):=Hd ⟨o0,m0,V0,gm,gG⟩;have gI:=gm.below0;have hq:=Hd gI;have gK:=Hd gk;have hC:hs.length=j:=by have:=Wo List.length gk;simpa [Nat.min_eq_left hj] using this
  clear HI gk gm gG gI o0 m0 V0
  by_cases gH:j<q.es.length
  ·have hA:(j:Int)<q.es.length:=by omega
   have gv:=hq.o;obtain⟨b,off,x0,x1,x2,ea,k0,k1,k2,hx⟩:=gj.o.es.cells j gH;subst ea;obtain⟨zo,zv,za,zn,zc,rfl,rfl,rfl⟩:=hx.parts;have gi:=Hd (gL.o.expr _ (VG gH));have ga:=gi.o.1;have gz:=ExT.size_pos q.es[j];obtain⟨e,he⟩:=Ex (q.es[j]);rw[<- he] at hx gi ga gz;have HX:=Hd hx;have q0:=Cq gv k0;have q1:=Cq gv k1;have q2:=Cq gv k2;have hH:Hq ((q.es.take (j+1)).map fnT=(q.es.take j).map fnT++[fnT e]):=Hd (by rw[Vz gH,VU,he];rfl);obtain⟨wz,gp⟩:=Ex (wy.alloc (.cells #[Iv zo,Iv zv,.slice za zn zc] 79));have hF:Hq (_=wz):=Hd gp.symm;have h5:Bw wy wz:=by rw[gp];exact Ah _ _
   have g0:wz.heap[wy.heap.size]?=some (.cells #[Iv zo,Iv zv,.slice za zn zc] 79 (0,0)):=by rw[gp];exact Vv _ _
   have p0:wz.cell? (Av wy.heap.size)=some (Iv zo):=by rw[Vt _ _ 0 _ _ _ g0];rfl
   have p1:wz.cell? (Aw wy.heap.size 1)=some (Iv zv):=by rw[Vt _ _ 1 _ _ _ g0];rfl
   have p2:wz.cell? (Aw wy.heap.size 2)=some (.slice za zn zc):=by rw[Vt _ _ 2 _ _ _ g0];rfl
   obtain⟨o4,m4,V4,lt0,mn4⟩:=gw.o;have lt4:=lt0.below h5;have n4:o4 wy.heap.size=none:=lt0.sat.lt.none (Vu _);have h3:∀ g,u8.ownBlock=some g->g<wy.heap.size:=fun g hg=>(lt0.l.own.lt g hg).2
   have hN:(two++hs).length=2+j:=by simp[two,hC];omega
   have gx:=Hd (M6 hK e _ (two++hs) nx wz o4 m4 V4 _ lt4.sat ⟨lt4.st.1,mn4⟩ lt4.b2 gi.o.2.1.valid (by have:=gi.o.2.2;rw[gP.o] at this;exact this) hx (by omega) (Tk hy ga (by omega)));have g8:=Hd lt4;clear gv k0 k1 k2 hx h5 g0 gp lt4 gw he lt0;go_upto_region 9 with fail;rw[hF.o];clear q0 q1 q2;go_wp2_with fail;refine gx.o.mono ?_;rintro y w5 ⟨k,rfl,hk,o5,m5,V5,g9,⟨gY,gE⟩,gA⟩;have ho:Hq (m5.d.pool.many<=2*2^n+(j+1)*(39*2^n+1)):=Hd (Tl ga gz gE);have gn:Hq (LawT K n (OrdP q.order) (Bi n) wb mb (two++(hs++[(k,fnT e)])) (k+1) (fun ws c=>ws=[]/\True) hs hs w5 o5 m5 V5 u8 u9):=Hd (g8.o.go (by rw[<- VH];exact gA) (MA.app _) ⟨gY,trivial⟩ g9);have r0:=g9.cell (p:=Av wy.heap.size) p0 n4 (fun e=>e);have r1:=g9.cell (p:=Aw wy.heap.size 1) p1 n4 (fun e=>e);have r2:=g9.cell (p:=Aw wy.heap.size 2) p2 n4 (fun e=>e);have n5:=g9.none' (Af p0) n4;have hh:wb.heap.size<=w5.heap.size:=gA.chg.size;clear g9 gY gA gE gx p0 p1 p2 g8;go_upto_region 13 with (at_builtin;refine Cz FO _ rfl _ _ rfl wb.heap.size _ (Au (hs.map Prod.fst)) _ rfl rfl rfl rfl rfl (by exact gn.o.l.own) (by simp[Au];omega) hh ?_;intro v6 w6 gt g1 g2 g3 g4 gJ)
   have gX:=EO g1 g2 g3 g4 gJ;have ge:w6.heap[wy.heap.size]?=w5.heap[wy.heap.size]?:=gX.keep _ (Af r0) (fun e=>by have:=h3 _ e;omega);have t0:=Co r0 ge;have t1:=Co r1 ge;have t2:=Co r2 ge;have g6:=Hd (gn.o.appL gt g1 g2 g3 g4 gJ (p:=(k,fnT e)));have a0:=Cq g6.o.below0 c0;have h7:=Hd (Ta e _ n (by omega) w6 (by omega) gi.o.2.1 (HX.o.below g6.o.below0));clear gX ge gt g1 g2 g3 g4 gJ r0 r1 r2 gn h3;go_wp2_with fail;refine h7.o.mono ?_;rintro y w7 ⟨v7,rfl,gd,h6⟩;obtain⟨av,cv,rfl,_⟩:=gd.slice;have h9:Hq (LawB w7 o5 wb.heap.size (.slice av (AL (tabB n (fnT e))).length cv) (tabB n (fnT e))):=Hd (QY (n:=n) gd (by rw[CA];exact IQ (by omega)) g6.o.sat.lt g6.o.sat.chg.size);have gf:=Hd (g6.o.below h6);obtain⟨rs,hm,gC,gB⟩:=gf.o.x.ex;have gO:=Hd gC;have h8:=Hd gB;have ht:rs.length=hs.length:=by rw[hm];simp
   have hf:wb.heap.size<=w7.heap.size:=gf.o.sat.chg.size;clear gd h6 gC gB h7 g6 t0 t1 t2 a0;go_upto_region 14 with (at_builtin;refine Cz FP _ rfl _ _ rfl wb.heap.size _ rs _ rfl rfl rfl rfl rfl (by exact gO.o) (by omega) hf ?_;intro v8 w8 gr g1 g2 g3 g4 h4)
   have gS:=Hd (gf.o.appX h9.o rfl ht gO.o h8.o gr g1 g2 g3 g4 h4 (p:=(k,fnT e)));have hJ:Hq (SetI K q n wb mb (j+1) v6 v8 w8):=Hd ⟨hs++[(k,fnT e)],k+1,by rw[VU,gK.o,hH.o];rfl,by omega,o5,m5,V5,gS.o,ho.o⟩;clear gr g1 g2 g3 g4 h4 gO h8 gf h9 gS;go_wp2_with fail;go_roundw
   case rel=>exact⟨j+1,by omega,by go_num,hJ⟩
   case measure=>simp[intOf];omega
  ·have hB:j=q.es.length:=by omega
   have hA:¬ (j:Int)<q.es.length:=by omega
   obtain⟨o4,m4,V4,lt4,mn4⟩:=gw.o;have hp:=Hd mn4;clear mn4;have e3:=Cq lt4.below0 c3;have gq:m4.waits=[]:=lt4.st.1;have gu:Bo n m4.waits.length q.plan=0:=by
    rw[gq];have:=gL.o.planOk;rw[gP.o] at this;exact this
   have gQ:=Hd (Tf lt4.sat (c:=cp) (gj.o.plan.below lt4.below0) (fun h0 x hx=>by
    obtain⟨b,off,e,hc,_⟩:=gj.o.plan.cells 0 h0;rw[hx] at e;cases e;exact lt4.sat.none0 (Af hc)) (by rw[gq];simp))
   rw[gu] at gQ;have g8:=Hd lt4;have hG:=Hd gq;clear lt4 gq gu gw;go_wp2_with fail;refine gQ.o.mono ?_;rintro y w5 ⟨rfl,o5,m5,gh⟩
   have HF:Hq (Q (.returned (.tuple #[Pt mb,u8,u9,.bool true])) w5):=Hd (by
    rw[HQ.o];refine⟨mb,u8,u9,wb,hs,nx,rfl,hb.o,by rw[gK.o,hB,Wb],by omega,o5,m5,V4,g8.o.go gh.sat g8.o.b2 ?_ (ChgX.of_chg gh.chg NoB),?_⟩
    rotate_left
    . rw[gh.d];exact Tm (by omega) hp.o
    have:=gh.yes rfl;rw[hG.o] at this;exact⟨by simpa using this.1,by simpa using this.2⟩)
   clear gh gQ;go_wp2_with fail;refine VR (GU rfl _ _ _) rfl ?_;exact HF.o
theorem To (bx bz:List Bool)(hlen:bz.length=bx.length)(ax az:Option Addr)(cx cz:Nat)(w:Wd)(h1:Cd w ax bx)(h2:Cd w az bz) :
 Cl 181 #[.slice ax bx.length cx,.slice az bx.length cz] w (Bl (.bool (decide (bx=bz))) w):=by
 have H1:=Hd h1;have H2:=Hd h2;have hl:=h1.len;have g7:=Hd hlen;obtain⟨L,hL⟩:=Ex bx.length;have HL:=Hd hL;rw[<- hL] at hl ⊢;clear h1 h2 hL hlen
 go_enter func181,ntmps181
 go_wp2_with fail
 go_loopw [4,5] (fun s4 s5 wr=>∃ j:Nat,j<=L/\s5=Iv j/\Hq (Bw w wr)/\Hq (∀ q,q<j->bx.getD q false=bz.getD q false)) (fun _ s5 _=>L-(intOf s5).toNat)
 case atStart=>exact⟨0,VC _,rfl,Hd (VI _ _),Hd fun q hq=>by omega⟩
 case round =>
  obtain⟨j,hj,rfl,HB,HQ⟩:=hrel
  by_cases g4:j<L
  ·obtain⟨b1,of1,rfl,c1⟩:=(H1.o.below HB.o).cells j (by rw[<- HL.o];exact g4);obtain⟨b2,of2,rfl,c2⟩:=(H2.o.below HB.o).cells j (by rw[g7.o,<- HL.o];exact g4);have g2:=Hd (HB.o.trans ((Am wr 1).mono HB.o.size));have g9:(j:Int)<(L:Int):=by omega
   obtain⟨y1,g1⟩:∃ y,y=bx.getD j false:=⟨_,rfl⟩;obtain⟨y2,g0⟩:∃ y,y=bz.getD j false:=⟨_,rfl⟩;rw[<- g1] at c1;rw[<- g0] at c2;have g5:Hq (y1=y2->∀ q,q<j+1->bx.getD q false=bz.getD q false):=Hd fun e q hq=>by
    rcases VE q j with h|h
    . exact HQ.o q h
    ·obtain rfl:q=j:=by omega
     rw[<- g1,<- g0,e]
   have g6:Hq (y1≠y2->bx≠bz):=Hd fun g8 e=>g8 (by rw[g1,g0,e])
   clear g1 g0;go_upto_region 6 with fail;refine AJ (fun W:Wd=>W.cell? (Aw b1 (of1+j))=some (.bool y1)/\W.cell? (Aw b2 (of2+j))=some (.bool y2)) false 9
    [(0,false),(1,false),(2,false),(3,false),(4,false),(5,false),(6,false),(7,false),(8,false)] (by kernel_rfl) (by kernel_rfl) ⟨c1,c2⟩ ?_
   simp only[planned,AH]
   iterate 9
    refine Aq rfl ?_;apply Exists.intro;refine⟨fun w' hw=>?_,?_⟩
    . obtain⟨h1,h2⟩:=hw;go_simp;rfl
    simp only[Ab]
   refine Bs ?_;clear c1 c2;cases y1<;>cases y2
   ·have g3:=Hd (g5.o rfl);go_wp2_with fail;go_roundw
    case rel=>exact⟨j+1,by omega,by go_num,g2,g3⟩
    case measure=>simp[intOf];omega
   . have HF:Hq (Ending.returned (.bool false)=.returned (.bool (decide (bx=bz)))):=Hd (by rw[WJ (g6.o (by simp))]);go_wp2_with fail;go_ret;exact⟨HF.o,g2.o⟩
   . have HF:Hq (Ending.returned (.bool false)=.returned (.bool (decide (bx=bz)))):=Hd (by rw[WJ (g6.o (by simp))]);go_wp2_with fail;go_ret;exact⟨HF.o,g2.o⟩
   ·have g3:=Hd (g5.o rfl);go_wp2_with fail;go_roundw
    case rel=>exact⟨j+1,by omega,by go_num,g2,g3⟩
    case measure=>simp[intOf];omega
  ·have HF:Hq (Ending.returned (.bool true)=.returned (.bool (decide (bx=bz)))):=Hd (by
    rw[WV];refine Xh g7.o.symm fun i h1 h2=>?_
    have:=HQ.o i (by have:=HL.o;omega);simpa [List.getD,h1,h2] using this)
   have g9:¬ (j:Int)<(L:Int):=by omega
   go_wp2_with fail;go_ret;exact⟨HF.o,HB.o⟩
def cofF (F:BF)(v:Nat)(b:Bool):BF:=fun ρ=>F fun u=>if u=v then b else ρ u
theorem MC {u v r:Nat}(hu:u<v):bitB (2^v*x+r) u=bitB r u:=by
 obtain⟨k,rfl⟩:∃ k,v=u+(k+1):=⟨v-u-1,by omega⟩;unfold bitB;have e1:(2:Nat)^(u+(k+1))*x=2^u*(2*(2^k*x)):=by rw[Nat.pow_add,WZ];ac_rfl
 rw[e1,Nat.mul_add_div (Xe (by omega)),Nat.mul_add_mod]
theorem MD {v q r:Nat}(hr:r<2^v)(hc:c<2):bitB (2^v*(2*q+c)+r) v=decide (c=1):=by
 unfold bitB;rw[Nat.mul_add_div (Xe (by omega)),XT hr,XA,Nat.mul_add_mod,Nat.mod_eq_of_lt hc]
theorem ME {u v q r:Nat}(hr:r<2^v)(hc:c<2)(hu:v<u):bitB (2^v*(2*q+c)+r) u=decide (q/2^(u-v-1)%2=1):=by
 obtain⟨k,rfl⟩:∃ k,u=v+(k+1):=⟨u-v-1,by omega⟩;unfold bitB;have e1:(2:Nat)^(v+(k+1))=2^v*(2*2^k):=by rw[Nat.pow_add,WZ];ac_rfl
 have e2:v+(k+1)-v-1=k:=by omega
 rw[e1,e2,<- XL,Nat.mul_add_div (Xe (by omega)),XT hr,XA,<- XL];have e3:(2*q+c)/2=q:=by omega
 rw[e3]
def cofI (j v:Nat)(b:Bool):Nat:=if bitB j v && !b then j-2^v else if !bitB j v&&b then j+2^v else j
theorem Tp (j v:Nat):∃ q c r,r<2^v/\c<2/\j=2^v*(2*q+c)+r:=by
 have h:=Nat.div_add_mod j (2^v);refine⟨j/2^v/2,j/2^v%2,j%2^v,Nat.mod_lt _ (Xe (by omega)),by omega,?_⟩;have e:2*(j/2^v/2)+j/2^v%2=j/2^v:=by omega
 rw[e];exact h.symm
theorem MF (j v:Nat)(b:Bool):∀ u,bitB (cofI j v b) u=if u=v then b else bitB j u:=by
 obtain⟨q,c,r,hr,hc,rfl⟩:=Tp j v;have g1:=MD (q:=q) hr hc;have key:∃ c':Nat,c'<2/\decide (c'=1)=b/\cofI (2^v*(2*q+c)+r) v b=2^v*(2*q+c')+r:=by
  unfold cofI;rw[g1];have h2:2^v*(2*q+1)=2^v*(2*q+0)+2^v:=by simp[Nat.mul_add]
  rcases(by omega:c=0\/c=1) with rfl|rfl
  ·cases b with
   | false=>exact⟨0,by omega,rfl,by simp⟩
   | true=>exact⟨1,by omega,rfl,by simp only[Nat.zero_ne_one,decide_false,Bool.not_true,Bool.and_self,Bool.not_false,X7,if_false,Wy];omega⟩
  ·cases b with
   | true=>exact⟨1,by omega,rfl,by simp⟩
   | false=>exact⟨0,by omega,rfl,by simp only[decide_true,Bool.not_false,Bool.and_self,Wy];omega⟩
 obtain⟨c',g0,hb,e⟩:=key;intro u;rw[e];rcases Xz u v with h|rfl|h
 . rw[Vs (by omega),MC h,MC h]
 . rw[Vw rfl,MD hr g0,hb]
 . rw[Vs (by omega),ME hr g0 h,ME hr hc h]
theorem Tq (h:∀ u,n<=u->bitB i u=false):i<2^n:=by
 rcases VE i (2^n) with h'|h'
 . exact h'
 ·exfalso;have hz:∀ k,i/2^n≠0->(∀ u,n<=u->bitB i u=false)->i/2^n<2^k->False:=by
   intro k
   induction k with
   | zero=>intro h1 _ h2;simp at h2;omega
   | succ k ih =>
     intro h1 h2 h3;refine ih h1 h2 ?_;have hb:=h2 (n+k) (by omega);unfold bitB at hb;rw[decide_eq_false_iff_not] at hb;have e:i/2^(n+k)=i/2^n/2^k:=by rw[Nat.pow_add,XL]
     rw[e] at hb;have h4:i/2^n/2^k<2:=by
      rw[Nat.div_lt_iff_lt_mul (Xe (by omega))];rw[WZ,Nat.mul_comm] at h3;exact h3
     have h5:i/2^n/2^k=0:=by
      generalize i/2^n/2^k=X at hb h4
      omega
     exact(Nat.div_eq_zero_iff_lt (Xe (by omega))).1 h5
  have h0:i/2^n≠0:=by
   intro e;have:=(Nat.div_eq_zero_iff_lt (Xe (by omega))).1 e;omega
  exact hz (i/2^n) h0 h (Nat.lt_two_pow_self)
theorem MG {v:Nat}{b:Bool}(hj:j<2^n)(hv:v<n):cofI j v b<2^n:=by
 refine Tq fun u hu=>?_
 rw[MF,Vs (by omega)];unfold bitB;rw[decide_eq_false_iff_not,XT (VJ hj (VX (by omega) hu))];omega
theorem Tr {v:Nat}{b:Bool}(hj:j<2^n)(hv:v<n):(tabB n F).getD (cofI j v b) false=cofF F v b (AF (AP j n)):=by
 rw[EN (MG hj hv)];unfold cofF;congr 1;funext u;rw[Iz,MF,Iz]
 by_cases e:u=v
 . subst e;simp[hv]
 . rw[Vs e,Vs e]
def AS (n:Nat)(F:BF)(v:Nat):Bool := !decide (tabB n (cofF F v false)=tabB n (cofF F v true))
def topR (n:Nat)(F:BF):List Nat->Int
 | []=>-1
 | v::l=>if AS n F v then (v:Nat) else topR n F l
theorem MH {n:Nat}{F:BF}:∀ {l:List Nat},(∀ v∈l,AS n F v=false)->topR n F l = -1
 | [],_=>rfl
 | v::l,h=>by
   show (if AS n F v then ((v:Nat):Int) else topR n F l) = -1
   rw[h v (VM ..)];exact MH fun u hu=>h u (Wi _ hu)
theorem Gk {n:Nat}{F:BF}:∀ (l:List Nat) (k:Nat),k<l.length->AS n F (l.getD k 0)=true->(∀ j,j<k->AS n F (l.getD j 0)=false)->topR n F l=(l.getD k 0:Nat)
 | [],k,hk,_,_=>by simp at hk
 | v::l,0,_,h,_=>by
   show (if AS n F v then ((v:Nat):Int) else topR n F l)=(v:Nat)
   have h':AS n F v=true:=h;rw[h',Vw rfl]
 | v::l,k+1,hk,h,hj=>by
   show (if AS n F v then ((v:Nat):Int) else topR n F l)=_
   have h0:AS n F v=false:=hj 0 (by omega);rw[h0];have:=Gk l k (by simpa using hk) (by simpa using h) (fun j hjk=>by simpa using hj (j+1) (by omega));simpa using this
section
theorem Ak.dep (h:Ak d V)(hf:okE (Aa d) f):DepF d.vars.length (ef V f):=fun ρ ρ' hr=>h.dag.indep _ f (Vu _) hf ρ ρ' fun v hv _=>hr v hv
theorem Ca (h:DepF n F)(v:Nat)(b:Bool):DepF n (cofF F v b):=fun ρ ρ' hr=>h _ _ fun u hu=>by
 show (if u=v then b else ρ u)=if u=v then b else ρ' u
 rw[hr u hu]
theorem Fa (F:BF)(v:Nat)(b:Bool)(ρ:Nat->Bool):cofF F v b ρ=F (upd ρ v b):=rfl
theorem Dd (h:DepF n F)(v:Nat):AS n F v=true↔cofF F v false≠cofF F v true:=by
 unfold AS;rw[Bool.not_eq_true',decide_eq_false_iff_not];exact⟨fun h1 e=>h1 (by rw[e]),fun h1 e=>h1 (IK (Ca h v _) (Ca h v _) e)⟩
theorem Ts (h:Ak d V){v:Nat}(hf:okE (Aa d) f)(hl:levN d v<lvE d.vars.length (levN d) (Aa d) f):AS d.vars.length (ef V f) v=false:=by
 rw[<- Bool.not_eq_true,Dd (h.dep hf)];intro g0;refine g0 ?_;funext ρ;rw[Fa,Fa,h.dag.indep_var hf hl,h.dag.indep_var hf hl]
theorem MI (V:Nat->BF)(f:Nat)(ρ:Nat->Bool):ef V f ρ=(if f%2=0 then V (f/2) ρ else !V (f/2) ρ):=by
 unfold ef;split<;>simp_all
theorem MJ (h:Ak d V){b:BN}(hb:Aa d (f/2)=some b):topR d.vars.length (ef V f) d.vars=(b.v:Nat)/\b.v<d.vars.length:=by
 have hf:okE (Aa d) f:=.inr ⟨b,hb⟩;have g1:=h.dag.var _ _ hb;have g2:=h.dag.lt _ g1;have g3:lvE d.vars.length (levN d) (Aa d) f=levN d b.v:=by unfold lvE;rw[hb]
 refine⟨?_,g1⟩;have g0:=h.inv b.v g1;rw[Gk d.vars (levN d b.v) g2 ?_ ?_,g0]
 ·rw[g0,Dd (h.dep hf)];intro he;have hc:ef V b.hi=ef V b.lo:=by
   funext ρ;have h1:=h.dag.cofs hb ρ;have h2:ef V f (upd ρ b.v false)=ef V f (upd ρ b.v true):=congrFun he ρ;rw[MI,MI,h1.1,h1.2] at h2;split at h2
   . exact h2.symm
   . have:=Wo not h2;simpa using this.symm
  have:=h.dag.canon (h.dag.okHi _ _ hb) (h.dag.okLo _ _ hb) hc;exact h.dag.ne _ _ hb this.symm
 . intro j hj;have h1:=h.vlt j (by omega);exact Ts h hf (by rw[g3,h1.2];exact hj)
end
theorem MK (p:Prop):∃ b:Bool,b=true↔p:=by
 classical
 exact⟨decide p,by simp⟩
theorem SatE.dep {K:Law}{n:Nat}{Od:List Nat->Prop}{room:Nat}{w0 w:Wd}{mb:Nat}{fs:List (Int×BF)}{nx:Int}{o:Own}{m:ManD}{V:Nat->BF}(h:SatE K n Od room w0 mb fs nx w o m V){k:Int}{F:BF}(hk:(k,F)∈fs):DepF n F:=by
 obtain⟨f,hf,rfl⟩:=h.find hk;have:=h.ok.store.dep (h.ok.handles.ok _ hf)
 rwa [h.vars] at this
section
theorem ML {o:Oper}{r:List (Option Oper×Bool)}(hb:Region.wanted o (yielded ops a.tmps)=false)(_:S w)
 (h:A0 P ops Q S last r (a.put o.dst undef) w):A0 P ops Q S last ((some o,true)::r) a w:=by
 unfold A0;simp only[hb];exact h
end
theorem Tt (V:Nat->BF)(e:Nat):ef V (enot e)=notF (ef V e):=funext fun ρ=>D3 V e ρ
section
theorem IR {o:Own}(h:AY (K m.d V) o w mb m)(he:okE (Aa m.d) e):e<eMax:=by
 obtain⟨s,hs⟩:=h;obtain⟨s2,h2⟩:=hs.store;have:=h2.edge_lt he;unfold eMax;omega
end
section
variable {o:Own}
def NewF (K:Law)(n room:Nat)(w0:Wd)(mb:Nat)(fs:List (Int×BF))(nx:Int)(ws0:List Ev)(F:BF)(o:Own)(w:Wd)(x:Ending)(w':Wd):Prop :=
 x=.returned (.tuple #[Iv nx,Iv 0])/\∃ o' m' V',ChgX NoB o o' w w'/\m'.waits <:+ ws0/\SatE K n (fun _=>True) room w0 mb (fs++[(nx,F)]) (nx+1) w' o' m' V'
end
def Tu (e0:Nat):BF:=fun _=>decide (e0=0)
theorem Tv (hk:Ak d V){e0:Nat}(h:e0/2=0):ef V e0=Tu e0:=by
 rcases(show e0=0\/e0=1 by omega) with rfl|rfl
 . rw[hk.dag.ef0];rfl
 . rw[hk.dag.ef1];rfl
def FxS (K:Law)(n room:Nat)(w0:Wd)(mb:Nat)(ws0:List Ev)(C:Nat->Prop)(o0:Own)(wb:Wd)(B:Wd->Own->Prop)(fs:List (Int×BF))(nx:Int)(W:Wd):Prop :=
 ∃ o m V,ChgX C o0 o wb W/\m.waits <:+ ws0/\SatE K n (fun _=>True) room w0 mb fs nx W o m V/\B W o
def AA (B:Wd->Own->Prop):Prop:=∀ W o W' o',B W o->ChgX NoB o o' W W'->B W' o'
theorem NoB.sub {s:Nat}:∀ k,k<s->NoB k->C k:=fun _ _ e=>e.elim
section
variable {k l:Int}
theorem FxS.new (hB:AA B)(h:FxS K n room w0 mb ws0 C o0 wb B fs nx W)(hc:∀ o m V,m.waits <:+ ws0->SatE K n (fun _=>True) room w0 mb fs nx W o m V->Calls prog f args W (NewF K n room w0 mb fs nx ws0 F o W)) :
 Calls prog f args W fun x w'=>x=.returned (.tuple #[Iv nx,Iv 0])/\FxS K n room w0 mb ws0 C o0 wb B (fs++[(nx,F)]) (nx+1) w':=by
 obtain⟨o,m,V,h1,h2,h3,h4⟩:=h;refine(hc o m V h2 h3).mono ?_;rintro x w' ⟨q1,o',m',V',q2,q3,q4⟩;exact⟨q1,o',m',V',h1.trans q2 NoB.sub,q3,q4,hB _ _ _ _ h4 q2⟩
end
end Go.Proofs.YtkidaindpahefaaGreat
