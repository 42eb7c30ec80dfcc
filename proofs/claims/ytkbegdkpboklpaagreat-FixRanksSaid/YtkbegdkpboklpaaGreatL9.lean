/- More contracts of the program's functions. -/
import Derived.Test.YtkbegdkpboklpaaGreatK8
set_option linter.unusedSimpArgs false
set_option linter.unusedVariables false
set_option linter.unusedSectionVars false
set_option linter.unnecessarySimpa false
set_option maxRecDepth 100000
set_option maxHeartbeats 8000000
namespace Go.Proofs.YtkbegdkpboklpaaGreat
open Go.RowKit
section
variable {n:Nat} {F G:BF} {x y:Value} {w:World}
structure TabsAt (n:Nat) (w:World) (a:Option Addr) (Fs:List BF):Prop where
 len:Fs.length<=1000
 cells:∀ i (h:i<Fs.length),∃ b off v,a=some ⟨b,off,none⟩/\w.cell? ⟨b,off+i,none⟩=some v/\TabA n w v Fs[i]
end
open Go.RowKit
theorem NxB.low {bm bs bf bg mb base:Nat} {kind v kf kg:Int} (h:bm<base/\bs<base/\bf<base/\bg<base):LowB base (NxB bm bs bf bg mb kind v kf kg):=fun W W' o hB hk _=>by
 have key:∀ {b k:Nat} {u:Value},b<base->BoxA b k u W o->BoxA b k u W' o:=fun hb hx=>⟨(World.cell?_of_block (w:=W) (hk _ hb)).trans hx.1,hx.2⟩
 exact⟨key h.1 hB.1,key h.2.1 hB.2.1,key h.2.1 hB.2.2.1,key h.2.2.1 hB.2.2.2.1,key h.2.2.2 hB.2.2.2.2⟩

open Go.RowKit
open Classical in
open Go.RowKit
structure GrowR (u u':Value) (w w':World):Prop where
 os:w'.os=w.os
 tape:w'.tape=w.tape
 output:w'.output=w.output
 size:w.heap.size<=w'.heap.size
 app:Zcp u u' w w'
section
variable {u u' u'' x v:Value} {w w' w'' W W':World} {n B:Nat} {F:BF} {Fs:List BF}
theorem GrowR.of_below (hb:Below w.heap.size w w'):GrowR u u w w':=⟨hb.os,hb.tape,hb.output,hb.size,⟨fun k hk _=>hb.block k hk,.inl rfl⟩⟩
theorem GrowR.trans (h:GrowR u u' w w') (h':GrowR u' u'' w' w''):GrowR u u'' w w'' :=
 ⟨h'.os.trans h.os,h'.tape.trans h.tape,h'.output.trans h.output,Nat.le_trans h.size h'.size,⟨fun k hk hne =>
  (h'.app.keep k (Nat.lt_of_lt_of_le hk h.size) (fun e=>h.app.ne (fun e2=>hne e2.symm) hk e.symm)).trans (h.app.keep k hk hne),by
  rcases h'.app.loc with e|⟨k,e,hk⟩
  ·
   rcases h.app.loc with e2|⟨k,e2,hk⟩
   ·
    exact .inl (e.trans e2)
   ·
    exact .inr ⟨k,e.trans e2,hk⟩
  ·
   exact .inr ⟨k,e,Nat.le_trans h.size hk⟩⟩⟩
theorem GrowR.below (h:GrowR u u' w w') (hB:B<=w.heap.size) (hu:∀ k,u.ownBlock=some k->B<=k):Below B w w' :=
 ⟨h.os,h.tape,h.output,h.size,fun k hk=>h.app.keep k (by omega) (fun e=>by have:=hu k e.symm;omega)⟩
structure TabS (n:Nat) (W:World) (u x:Value) (F:BF):Prop where
 is:Zbw W x (tabB n F)
 sep:∀ k,x.ownBlock=some k->k<W.heap.size/\u.ownBlock≠some k
theorem TabS.grow (h:TabS n W u x F) (hg:GrowR u u' W W'):TabS n W' u' x F :=
 ⟨h.is.same (fun k hk=>hg.app.keep k (h.sep k hk).1 (fun e=>(h.sep k hk).2 e.symm)),fun k hk=>⟨Nat.lt_of_lt_of_le (h.sep k hk).1 hg.size,hg.app.ne (h.sep k hk).2 (h.sep k hk).1⟩⟩
structure NodR (n:Nat) (W:World) (B:Nat) (u:Value) (Fs:List BF):Prop where
 ex:∃ rs:List Value,rs.length=Fs.length/\OwnC 55 W B u rs/\∀ i (h:i<rs.length) (h2:i<Fs.length),TabS n W u rs[i] Fs[i]
theorem NodR.below (h:NodR n W B u Fs) (hb:Below W.heap.size W W'):NodR n W' B u Fs:=by
 obtain⟨rs,h1,h2,h3⟩:=h.ex;exact⟨rs,h1,h2.same fun k hk=>hb.block k (h2.lt k hk).2,fun i q1 q2=>(h3 i q1 q2).grow (.of_below hb)⟩
theorem NodR.blk (h:NodR n W B u Fs):∀ k,u.ownBlock=some k->B<=k/\k<W.heap.size:=by
 obtain⟨rs,h1,h2,h3⟩:=h.ex;exact h2.lt
end
open Classical in
open Go.RowKit
section
variable {n:Nat} {os:List Nat} {p k:Nat} {F:BF} {l:List BF}
theorem NodR.tabs {W:World} {B:Nat} {u:Value} {Fs:List BF} (h:NodR n W B u Fs) (hl:Fs.length<=1000):∃ a c,u=.slice a Fs.length c/\TabsAt n W a Fs:=by
 obtain⟨rs,h1,h2,h3⟩:=h.ex;rcases Nat.eq_zero_or_pos rs.length with h0|h0
 ·
  obtain⟨a,c,e,_⟩:=h2.slice;exact⟨a,c,by rw[e,h1],⟨hl,fun i hi=>by omega⟩⟩
 ·
  obtain⟨g,c,rfl,_,_⟩:=h2.shape h0;refine⟨_,c,by rw[h1],⟨hl,fun i hi=>⟨g,0,rs[i]'(by omega),rfl,?_,TabA.is (h3 i (by omega) hi).is⟩⟩⟩;have:=h2.cell i (by omega);rw[Nat.zero_add,this];simp
theorem NodR.app {W W':World} {B:Nat} {u u' x:Value} {Fs:List BF} {rs:List Value} (h1:rs.length=Fs.length) (h3:∀ i (h:i<rs.length) (h2:i<Fs.length),TabS n W u rs[i] Fs[i]) (hx:TabS n W u x F) (ho:OwnC 55 W' B u' (rs++[x])) (hg:GrowR u u' W W'):NodR n W' B u' (Fs++[F]) :=
 ⟨rs++[x],by simp[h1],ho,fun i q1 q2=>by
  rcases Nat.lt_or_ge i rs.length with c|c
  ·
   rw[List.getElem_append_left c,List.getElem_append_left (by omega)];exact(h3 i c (by omega)).grow hg
  ·
   have e:i=rs.length:=by simp at q1;omega
   subst e;rw[List.getElem_append_right (by omega),List.getElem_append_right (by omega)];simpa using hx.grow hg⟩
end
open Go.RowKit
theorem rowR_start {n:Nat} {w:World} {x:Value} {F:BF} (hx:∀ k,x.ownBlock=some k->k<w.heap.size) (hb:Zbw w x (tabB n F)) :
 NodR n (w.alloc (.cells #[x] 55)) w.heap.size (.slice (some ⟨w.heap.size,0,none⟩) 1 1) [F]:=by
 have hbel:=Zad w (.cells #[x] 55);refine⟨[x],rfl,⟨rfl,.inr ⟨w.heap.size,1,#[x],rfl,Nat.le_refl _,heap_alloc_new w _,Nat.le_refl _,by decide,rfl,rfl⟩⟩,fun i h1 h2=>?_⟩;obtain rfl:i=0:=by simp at h1;omega
 refine⟨hb.same fun k hk=>hbel.block k (hx k hk),fun k hk=>⟨Nat.lt_of_lt_of_le (hx k hk) hbel.size,fun e=>?_⟩⟩;have h1:w.heap.size=k:=by injection e
 have:=hx k hk;omega
theorem refAnd_own {n:Nat} {F G:BF} {x y:Value} {w:World} (hn:n<=16) (h1:TabA n w x F) (h2:TabA n w y G) :
 Calls Tryz.prog 95 #[x,y] w fun e w'=>∃ g,e=.returned (.slice (some ⟨g,0,none⟩) (2^n) (2^n))/\w.heap.size<=g/\g<w'.heap.size/\Zbw w' (.slice (some ⟨g,0,none⟩) (2^n) (2^n)) (tabB n (andF F G))/\Below w.heap.size w w':=by
 have HC:=Hd (Ztk (w:=w) hn h1);have HI:Hid (∀ W z,Below w.heap.size w W->Zbw W z (tabB n fun _=>false)->Calls Tryz.prog 153 #[x,y,z] W fun e w'=>∃ g,e=.returned (.slice (some ⟨g,0,none⟩) (2^n) (2^n))/\W.heap.size<=g/\g<w'.heap.size/\Zbw w' (.slice (some ⟨g,0,none⟩) (2^n) (2^n)) (tabB n (andF F G))/\Below W.heap.size W w'):=Hd fun W z hb hz=>by
  obtain⟨a,c,rfl,q1⟩:=h1.below hb;obtain⟨a',c',rfl,q2⟩:=h2.below hb;obtain⟨a3,c3,rfl,q3⟩:=TabA.is hz;refine(Zmb n F G (fun _=>false) a a' a3 c c' c3 W q1 q2 q3).mono ?_;rintro e w' ⟨g,rfl,ho,hb'⟩;exact⟨g,rfl,(ho.lt g rfl).1,(ho.lt g rfl).2,OwnC.boolsIs ho (by rw[Za6];exact tabs16 hn),hb'⟩
 clear h1 h2
 go_enter Tryz.func95,Tryz.ntmps95
 go_wp2_with fail;refine HC.out.mono ?_;rintro e w1 ⟨v,rfl,hv,hb1⟩;have HI1:=Hd (HI.out w1 v hb1 hv);have HB1:=Hd hb1;clear hv hb1 HC HI;go_wp2_with fail;refine HI1.out.mono ?_;rintro e w2 ⟨g,rfl,q1,q2,q3,q4⟩;have HF:=Hd (show w.heap.size<=g/\g<w2.heap.size/\Zbw w2 (.slice (some ⟨g,0,none⟩) (2^n) (2^n)) (tabB n (andF F G))/\Below w.heap.size w w2 from ⟨Nat.le_trans HB1.out.size q1,q2,q3,HB1.out.trans (q4.mono HB1.out.size)⟩);clear q1 q2 q3 q4 HI1 HB1;go_wp2_with fail;go_ret;exact⟨g,rfl,HF.out⟩
def OwnT (n:Nat) (F:BF) (w:World) (e:Ending) (w':World):Prop:=∃ g,e=.returned (.slice (some ⟨g,0,none⟩) (2^n) (2^n))/\w.heap.size<=g/\g<w'.heap.size/\Zbw w' (.slice (some ⟨g,0,none⟩) (2^n) (2^n)) (tabB n F)/\Below w.heap.size w w'
theorem refNot_own {n:Nat} {F:BF} {x:Value} {w:World} (hn:n<=16) (h:TabA n w x F):Calls Tryz.prog 97 #[x] w (OwnT n (notF F) w):=by
 obtain⟨a,c,rfl,h1⟩:=h;have:=Ztg (tabB n F) a c w h1;rw[Za6] at this;refine this.mono ?_;rintro e w' ⟨g,rfl,ho,hb⟩;have e1:(tabB n F).map (!·)=tabB n (notF F):=by
  unfold tabB;rw[List.map_map];rfl
 rw[e1] at ho;exact⟨g,rfl,(ho.lt g rfl).1,(ho.lt g rfl).2,OwnC.boolsIs ho (by rw[Za6];exact tabs16 hn),hb⟩
theorem refOr_own {n:Nat} {F G:BF} {x y:Value} {w:World} (hn:n<=16) (h1:TabA n w x F) (h2:TabA n w y G):Calls Tryz.prog 100 #[x,y] w (OwnT n (orF F G) w):=by
 have HN1:=Hd (Zq0 (w:=w) hn h1);have HN2:Hid (∀ W,Below w.heap.size w W->Calls Tryz.prog 97 #[y] W (RefT n (notF G) W)):=Hd fun W hb=>Zq0 hn (h2.below hb)
 clear h1 h2
 go_enter Tryz.func100,Tryz.ntmps100
 go_wp2_with fail;refine HN1.out.mono ?_;rintro e w1 ⟨u1,rfl,hu1,hb1⟩;have HU1:=Hd hu1;have HB1:=Hd hb1;have HN:=Hd (HN2.out w1 hb1);clear hu1 hb1 HN1 HN2;go_wp2_with fail;refine HN.out.mono ?_;rintro e w2 ⟨u2,rfl,hu2,hb2⟩;have HA:=Hd (Zqz hn ((TabA.is HU1.out).below hb2) (TabA.is hu2));have HB2:=Hd (HB1.out.trans (hb2.mono HB1.out.size));clear hu2 hb2 HN;go_wp2_with fail;refine HA.out.mono ?_;rintro e w3 ⟨u3,rfl,hu3,hb3⟩;have HN3:=Hd (refNot_own hn (TabA.is hu3));have HB3:=Hd (HB2.out.trans (hb3.mono HB2.out.size));clear hu3 hb3 HA;go_wp2_with fail;refine HN3.out.mono ?_;rintro e w4 ⟨g,rfl,q1,q2,q3,q4⟩;have HF:Hid (OwnT n (orF F G) w (.returned (.slice (some ⟨g,0,none⟩) (2^n) (2^n))) w4):=Hd ⟨g,rfl,Nat.le_trans HB3.out.size q1,q2,by rw[<- Yb2];exact q3,HB3.out.trans (q4.mono HB3.out.size)⟩;clear q1 q2 q3 q4 HN3;go_wp2_with fail;go_ret;exact HF.out
open Go.RowKit
def lenS:Value->Nat
 | .slice _ l _=>l
 | _=>0
theorem boolsIs_keep {g l c:Nat} {W W':World} {bs:List Bool} (hb:Zbw W (.slice (some ⟨g,0,none⟩) l c) bs) (hg:g<W.heap.size) (h:Below W.heap.size W W'):Zbw W' (.slice (some ⟨g,0,none⟩) l c) bs :=
 hb.same fun k hk=>h.block k (by
  have e:g=k:=by injection hk
  omega)
structure RfI (n B:Nat) (w1:World) (Φ:BF->BF) (R:BF) (i:Nat) (u a:Value) (W:World):Prop where
 nod:NodR n W B u ((List.range (i+1)).map (Zci Φ R))
 all:TabS n W u a (allF Φ R i)
 bel:Below B w1 W
 rings:Zf8 Φ R i
theorem tabS_new {n g:Nat} {W W':World} {u:Value} {F:BF} {B:Nat} {Fs:List BF} (hu:NodR n W B u Fs) (h1:W.heap.size<=g) (h2:g<W'.heap.size) (hb:Zbw W' (.slice (some ⟨g,0,none⟩) (2^n) (2^n)) (tabB n F)):TabS n W' u (.slice (some ⟨g,0,none⟩) (2^n) (2^n)) F :=
 ⟨hb,fun k hk=>by
  obtain rfl:g=k:=by injection hk
  exact⟨h2,fun e=>by have:=(hu.blk _ e).2;omega⟩⟩
theorem TabS.tab {n:Nat} {W:World} {u x:Value} {F:BF} (h:TabS n W u x F):TabA n W x F:=TabA.is h.is
theorem refRank_any {n:Nat} (hn:n<=4) {kind v:Int} (hv:v<(n:Int)) {vp vq x:Value} {P Q R:BF} {w:World} (hp:TabA n w vp P) (hq:TabA n w vq Q) (hx:Zbw w x (tabB n R)) (hxb:∀ k,x.ownBlock=some k->k<w.heap.size) {Φ:BF->BF} (hΦ:Φ=Zeh kind v P Q) (hd:∀ i,DepF n (Zci Φ R i)) (hR:DepF n R) :
 Calls Tryz.prog 35 #[Zik kind vp vq v,x] w fun e w'=>∃ i u B,e=.returned u/\w.heap.size<=B/\Zj7 Φ R i/\NodR n w' B u ((List.range (i+1)).map (Zci Φ R))/\Below w.heap.size w w':=by
 obtain⟨w1,hw1⟩:∃ w1,w1=w.alloc (.cells #[.int .i64 kind,vp,vq,.int .i64 v] 57):=⟨_,rfl⟩;have HW1:Hid (_=w1):=Hd hw1.symm;have hb1:Below w.heap.size w w1:=by rw[hw1];exact Zad _ _
 have hblk:w1.heap[w.heap.size]?=some (.cells #[.int .i64 kind,vp,vq,.int .i64 v] 57 (0,0)):=by rw[hw1];exact heap_alloc_new _ _
 have hz1:w.heap.size<w1.heap.size:=by rw[hw1];simp
 have hp1:=TabA.below hp hb1;have hq1:=TabA.below hq hb1;have hx1:Zbw w1 x (tabB n R):=hx.same fun k hk=>hb1.block k (hxb k hk)
 have hxb1:∀ k,x.ownBlock=some k->k<w1.heap.size:=fun k hk=>by have:=hxb k hk;omega
 obtain⟨pa,pc,rfl,_⟩:=hp;obtain⟨qa,qc,rfl,_⟩:=hq;obtain⟨xa,xc,rfl,_⟩:=TabA.is hx;obtain⟨w2,hw2⟩:∃ w,w=w1.alloc (.cells #[.slice xa (2^n) xc] 55):=⟨_,rfl⟩;have HW2:Hid (_=w2):=Hd hw2.symm;have hb2:Below w1.heap.size w1 w2:=by rw[hw2];exact Zad _ _
 have HI0:Hid (RfI n w1.heap.size w1 Φ R 0 (.slice (some ⟨w1.heap.size,0,none⟩) 1 1) (.slice xa (2^n) xc) w2):=Hd ⟨by rw[hw2];exact rowR_start hxb1 hx1,⟨hx1.same fun k hk=>hb2.block k (hxb1 k hk),fun k hk=>⟨Nat.lt_of_lt_of_le (hxb1 k hk) hb2.size,fun e=>by
  have h1:w1.heap.size=k:=by injection e
  have:=hxb1 k hk;omega⟩⟩,hb2,Zf8.zero _ _⟩
 have HP:=Hd (show TabA n w1 (.slice pa (2^n) pc) P/\TabA n w1 (.slice qa (2^n) qc) Q/\TabA n w1 (.slice xa (2^n) xc) R from ⟨hp1,hq1,TabA.is hx1⟩);have HB1:=Hd hb1;have HBK:=Hd hblk;have HPH:=Hd hΦ;have HD:=Hd hd;have hle:∀ i,Zf8 Φ R i->i<=2^n:=fun i hi=>Zyf hd hi
 have HLE:=Hd hle;have hp16:2^n<=16:=by
  rcases(show n=0\/n=1\/n=2\/n=3\/n=4 by omega) with rfl|rfl|rfl|rfl|rfl<;>decide
 have HP16:=Hd hp16;have HZ1:=Hd hz1
 show Calls _ _ #[.agg #[_,_,_,_],_] _ _
 clear hw1 hw2 hp1 hq1 hx hx1 hxb hxb1 hb1 hb2 hblk hΦ hd hle hR hz1 hp16
 go_enter Tryz.func35,Tryz.ntmps35
 go_upto_region 1 with fail;rw[HW1.out];go_upto_region 2 with fail;rw[HW2.out];go_wp2_with fail
 go_loopw [5,6,7] (fun s5 s6 _ wr=>∃ (i:Nat),Hid (RfI n w1.heap.size w1 Φ R i s5 s6 wr)) (fun s5 _ _ _=>2^n+2-lenS s5)
 case atStart=>exact⟨0,HI0⟩
 case round =>
  clear HI0;obtain⟨i,HI⟩:=hrel;have hr16:=HLE.out i HI.out.rings;obtain⟨au,cu,hu,_⟩:=NodR.tabs HI.out.nod (by have:=HP16.out;simp;omega);subst hu;rw[show ((List.range (i+1)).map (Zci Φ R)).length=i+1 by simp] at HI;obtain⟨aa,ca,ha,_⟩:=HI.out.all.tab;subst ha;obtain⟨rs,hrs,hown,htr⟩:=HI.out.nod.ex;have hrl:rs.length=i+1:=by rw[hrs];simp
  obtain⟨x0,x1,x2,x3,xf⟩:=cells4 ((HI.out.bel.block _ HZ1.out).trans HBK.out);have HNX:=Hd (Zl4 (n:=n) (by omega) (kind:=kind) hv (HP.out.1.below HI.out.bel) (HP.out.2.1.below HI.out.bel) HI.out.all.tab);unfold Zik at HNX;rw[<- HPH.out] at HNX;have HOWN:=Hd hown;have HTR:=Hd htr;have HRS:=Hd hrs;have HRL:=Hd hrl;have HR16:=Hd hr16;clear hown htr hrs hrl hr16 xf;go_wp2_with fail;refine HNX.out.mono ?_;rintro e w3 ⟨v3,rfl,hv3,hb3⟩;obtain⟨a3,c3,e3,_⟩:=id hv3;subst e3;have HV3:=Hd hv3;have HB3:=Hd hb3;have HNT:=Hd (Zq0 (n:=n) (by omega) (HI.out.all.tab.below hb3));clear hv3 hb3 HNX x0 x1 x2 x3;go_wp2_with fail;refine HNT.out.mono ?_;rintro e w4 ⟨v4,rfl,hv4,hb4⟩;have HB4:=Hd (HB3.out.trans (hb4.mono HB3.out.size));have HAN:=Hd (refAnd_own (n:=n) (by omega) (HV3.out.below hb4) (TabA.is hv4));clear hv4 hb4 HNT HV3 HB3;go_wp2_with fail;refine HAN.out.mono ?_;rintro e w5 ⟨g5,rfl,q1,q2,q3,q4⟩;have HB5:=Hd (HB4.out.trans (q4.mono HB4.out.size));have HRG:Hid (wr.heap.size<=g5/\g5<w5.heap.size/\Zbw w5 (.slice (some ⟨g5,0,none⟩) (2^n) (2^n)) (tabB n (Zci Φ R (i+1)))):=Hd ⟨Nat.le_trans HB4.out.size q1,q2,q3⟩;have HC0:=Hd (Ztk (n:=n) (w:=w5) (x:=.slice xa (2^n) xc) (F:=R) (by omega) (HP.out.2.2.below (HI.out.bel.trans (HB5.out.mono HI.out.bel.size))));clear q1 q2 q3 q4 HAN HB4;go_wp2_with fail;refine HC0.out.mono ?_;rintro e w6 ⟨v6,rfl,hv6,hb6⟩;have HB6:=Hd (HB5.out.trans (hb6.mono HB5.out.size));have HRG6:Hid (wr.heap.size<=g5/\g5<w6.heap.size/\Zbw w6 (.slice (some ⟨g5,0,none⟩) (2^n) (2^n)) (tabB n (Zci Φ R (i+1)))):=Hd ⟨HRG.out.1,Nat.lt_of_lt_of_le HRG.out.2.1 hb6.size,boolsIs_keep HRG.out.2.2 HRG.out.2.1 hb6⟩;obtain⟨bb,hbb⟩:=Zmq (Zci Φ R (i+1)=fun _=>false);have HSM:=Hd (Zkt (n:=n) (b:=bb) (TabA.is HRG6.out.2.2) (TabA.is hv6) (HD.out (i+1)) (Zcm n false) hbb);have HBB:=Hd hbb;clear hv6 hb6 hbb HC0 HRG HB5;go_wp2_with fail;refine HSM.out.mono ?_;rintro e w7 ⟨rfl,hb7⟩;have HB7:=Hd (HB6.out.trans (hb7.mono HB6.out.size));have HRG7:Hid (wr.heap.size<=g5/\g5<w7.heap.size/\Zbw w7 (.slice (some ⟨g5,0,none⟩) (2^n) (2^n)) (tabB n (Zci Φ R (i+1)))):=Hd ⟨HRG6.out.1,Nat.lt_of_lt_of_le HRG6.out.2.1 hb7.size,boolsIs_keep HRG6.out.2.2 HRG6.out.2.1 hb7⟩;clear hb7 HSM HRG6 HB6;cases bb with
  | true =>
    have HF:=Hd (show w.heap.size<=w1.heap.size/\Zj7 Φ R i/\NodR n w7 w1.heap.size (.slice au (i+1) cu) ((List.range (i+1)).map (Zci Φ R))/\Below w.heap.size w w7 from
     ⟨HB1.out.size,⟨HI.out.rings,HBB.out.1 rfl⟩,HI.out.nod.below HB7.out,HB1.out.trans ((HI.out.bel.trans (HB7.out.mono HI.out.bel.size)).mono HB1.out.size)⟩)
    clear HI HB7 HRG7 HBB;go_wp2_with fail;go_ret;exact⟨i,_,_,rfl,HF.out⟩
  | false =>
    have hne:Zci Φ R (i+1)≠fun _=>false:=fun e=>by have:=HBB.out.2 e;cases this
    have HNE:=Hd hne;have HOWN7:=Hd (HOWN.out.below HB7.out);have hB7:w1.heap.size<=w7.heap.size:=Nat.le_trans HI.out.bel.size HB7.out.size;have hsm:rs.length<1099511627776:=by have:=HRL.out;have:=HP16.out;have:=HR16.out;omega
    have HNB:=Hd HI.out.nod.blk;clear hne HBB;go_upto_region 7 with (at_builtin;refine Zb6 Yab _ rfl _ _ rfl w1.heap.size _ rs (.slice (some ⟨g5,0,none⟩) (2^n) (2^n)) rfl rfl rfl rfl rfl (by exact HOWN7.out) (by omega) hB7 ?_;intro u8 w8 hown8 g1 g2 g3 g4 hk8)
    have HG8:Hid (GrowR (.slice au (i+1) cu) u8 wr w8):=Hd ((GrowR.of_below HB7.out).trans ⟨g1,g2,g3,g4,hk8⟩)
    have hX7:TabS n w7 (.slice au (i+1) cu) (.slice (some ⟨g5,0,none⟩) (2^n) (2^n)) (Zci Φ R (i+1)):=⟨HRG7.out.2.2,fun k hk=>by
     obtain rfl:g5=k:=by injection hk
     exact⟨HRG7.out.2.1,fun e=>by have:=(HNB.out _ e).2;have:=HRG7.out.1;omega⟩⟩
    have htr7:∀ j (h:j<rs.length) (h2:j<((List.range (i+1)).map (Zci Φ R)).length),TabS n w7 (.slice au (i+1) cu) rs[j] ((List.range (i+1)).map (Zci Φ R))[j]:=fun j h h2=>(HTR.out j h h2).grow (.of_below HB7.out)
    have HN8:Hid (NodR n w8 w1.heap.size u8 ((List.range (i+1)).map (Zci Φ R)++[Zci Φ R (i+1)])):=Hd (NodR.app HRS.out htr7 hX7 hown8 ⟨g1,g2,g3,g4,hk8⟩);have HX8:=Hd (hX7.grow ⟨g1,g2,g3,g4,hk8⟩);have HA8:=Hd (HI.out.all.grow HG8.out);have HB8:=Hd (HG8.out.below HI.out.bel.size fun k hk=>(HNB.out k hk).1);have HOR:=Hd (refOr_own (n:=n) (by omega) HA8.out.tab HX8.out.tab)
    have HLN:Hid (lenS u8=i+2):=Hd (by
     obtain⟨a8,c8,e8,_⟩:=hown8.slice;rw[e8]
     show (rs++[_]).length=i+2
     simp[HRL.out])
    clear hX7 htr7 hown8 g1 g2 g3 g4 hk8 HOWN7 hB7 hsm HTR HRS HOWN;go_wp2_with fail;refine HOR.out.mono ?_;rintro e w9 ⟨g9,rfl,q1,q2,q3,q4⟩
    have HN:Hid (RfI n w1.heap.size w1 Φ R (i+1) u8 (.slice (some ⟨g9,0,none⟩) (2^n) (2^n)) w9):=Hd ⟨by
     rw[List.range_succ,List.map_append];exact HN8.out.below q4,tabS_new HN8.out q1 q2 q3,HI.out.bel.trans ((HB8.out.mono (Nat.le_refl _)).trans (q4.mono (Nat.le_trans HI.out.bel.size HG8.out.size))),HI.out.rings.succ HNE.out⟩
    have HR2:=Hd (HLE.out (i+1) HN.out.rings);clear q1 q2 q3 q4 HOR HI HB7 HB8 HA8 HX8 HN8 HG8;go_wp2_with fail;go_roundw
    case rel=>exact⟨i+1,HN⟩
    case measure =>
     have h1:=HR2.out;have h2:=HLN.out
     show 2^n+2-lenS u8<2^n+2-(List.map (Zci Φ R) (List.range (i+1))).length
     rw[List.length_map,List.length_range];omega
open Go.RowKit
theorem pow_le16 {n:Nat} (hn:n<=4):2^n<=16:=by
 rcases(show n=0\/n=1\/n=2\/n=3\/n=4 by omega) with rfl|rfl|rfl|rfl|rfl<;>decide
section
variable {K:Law} {n room L:Nat} {w0 w wb W W':World} {mb:Nat} {fs:List (Int×BF)} {nx:Int} {o0:Own} {ws0:List Ev} {C:Nat->Prop} {B:World->Own->Prop}
theorem keepL {base:Nat} {v:Value} {ks:List Int}:Zdf fun W o=>LawL W o base v ks:=fun _ _ _ _ h hc=>h.chg hc
end
open Go.RowKit
theorem lawR_nod {n:Nat} {W:World} {B k base:Nat} {o:Own} {u vl:Value} {Fs:List BF} {fs rs:List (Int×BF)} (hl:LawL W o base vl (rs.map Prod.fst)) (hN:NodR n W B u Fs) (hk:rs.length=k) (h0:0<Fs.length) (hle:k<=Fs.length) (hs:∀ i (h:i<rs.length) (h2:i<Fs.length),rs[i].2=Fs[i]) (hsub:∀ p∈rs,p∈fs) (hsm:Fs.length<=1000) :
 ∃ g cu,u=.slice (some ⟨g,0,none⟩) Fs.length cu/\Fs.length<=cu/\∀ c,LawR (fun _=>True) n fs W vl (.slice (some ⟨g,0,none⟩) k c) rs:=by
 obtain⟨ts,h1,h2,h3⟩:=hN.ex;obtain⟨g,cu,rfl,hcap⟩:∃ g cu,u=.slice (some ⟨g,0,none⟩) ts.length cu/\ts.length<=cu:=by
  rcases h2.2 with ⟨_,h5⟩|⟨g,cu,cur,e,_,_,h5,_⟩
  ·
   omega
  ·
   exact⟨g,cu,e,h5⟩
 obtain⟨a,c,e,hz,_⟩:=hl.ints (by simp;omega);refine⟨g,cu,by rw[h1],by omega,fun c'=>⟨hsub,by omega,⟨a,c,by rw[e];simp,hz⟩,⟨_,c',by rw[hk],⟨by simp;omega,fun i hi=>?_⟩⟩⟩⟩;have hi':i<rs.length:=by simpa using hi
 refine⟨g,0,ts[i]'(by omega),rfl,?_,?_,fun _ _=>trivial⟩
 ·
  have:=h2.cell i (by omega);rw[Nat.zero_add,this];simp
 ·
  have e2:(rs.map fun p=>tabB n p.2).getD i []=tabB n rs[i].2:=by simp[List.getD,hi']
  rw[e2,hs i hi' (by omega)];exact(h3 i (by omega) (by omega)).is
end Go.Proofs.YtkbegdkpboklpaaGreat
