/- Several texts in one file: contracts of the program's functions and what follows from them. -/
import Derived.Test.YtkidaindpahefaaGreatX8
import Derived.Deep.Slices
import Derived.ChangeArms
import Derived.WideShapes
set_option linter.unusedSimpArgs false
set_option linter.unusedVariables false
set_option linter.unusedSectionVars false
set_option linter.unnecessarySimpa false
set_option maxRecDepth 100000
set_option maxHeartbeats 8000000
namespace Go.Proofs.YtkidaindpahefaaGreat
open Go.Proofs.Tryz
open Go.RowKit
open Go.Proofs.Tryz
open Go.RowKit
variable {B B':Wd->Own->Prop}{C:Nat->Prop}{F G H:BF}{Fs Gs now:List BF}{K:Law}{Od:List Nat->Prop}{P:Program}{V:Nat->BF}{W W' W1 w w' w0 wb:Wd}{a:Act}{b base c f fuel g i j k lo lv mb n off room wd:Nat}{cs:Array Value}{fs hs r:List (Int×BF)}{gs:List (List Int)}{held:Bool}{ks vs xs ys zs:List Int}{m:ManD}{nx:Int}{o0:Own}{os:List Nat}{rs:List Value}{spare:Nat->Bool}{t:TypeId}{u v v' vl vx:Value}{ws0:List Ev}
def LwB (n base:Nat)(vl vx:Value)(hs:List (Int×BF)):Wd->Own->Prop:=fun W o=>LawL W o base vl (hs.map Prod.fst)/\LawX W o base vx (hs.map fun p=>tabB n p.2)
theorem LwB.keep :AA (LwB n base vl vx hs):=fun _ _ _ _ h hc=>⟨h.1.chg hc,h.2.chg hc⟩
structure Q23 (n:Nat)(hs:List (Int×BF))(nx:Int):Prop where
 n1:1<=n
 n6:n<=6
 h5:hs.length<=5
 nx:nx<=549755813888
 room:3*((two++hs).length*2^n)<=Bi n
structure S23 (K:Law)(n:Nat)(w0:Wd)(mb:Nat)(ws0:List Ev)(o0:Own)(wb:Wd)(vl vx:Value)(hs:List (Int×BF))(nx:Int)(B:Wd->Own->Prop)(zs:List Int)(W:Wd):Prop where
 st:FxO K n (Bi n) w0 mb ws0 NoB o0 wb (fun W o=>LwB n w0.heap.size vl vx hs W o/\B W o) (fun l=>l.map Int.ofNat=zs) (two++hs) nx W
 r:A7 zs=true
 len:zs.length=n
section
variable {o:Own}{al:Option Addr}{cl:Nat}
theorem Q23.pow (q:Q23 n hs nx):2^n<=64:=VX (by omega) q.n6
theorem Q23.size (q:Q23 n hs nx):hs.length*2^n+2^n<=1000:=by
 have h1:=q.pow;have h2:=XI q.h5 h1;omega
theorem S23.start (h:LawT K n Od (Bi n) w0 mb (two++hs) nx (SufW ws0) hs hs W o m V vl vx):∃ zs,S23 K n w0 mb ws0 o W vl vx hs nx (fun _ _=>True) zs W:=by
 have hp:=h.sat.ok.store.permB;exact⟨m.d.vars.map Int.ofNat,⟨o,m,V,ChgX.of_below (VI _ _) o NoB,h.st,h.sat.withOd rfl,⟨h.l,h.x⟩,trivial⟩,IS (Gg hp),by rw[VP];exact h.sat.vars⟩
theorem S23.keepB (hB:AA B):AA (fun W o=>LwB n w0.heap.size vl vx hs W o/\B W o):=LwB.keep.and hB
theorem S23.below (hB:AA B)(h:S23 K n w0 mb ws0 o0 wb vl vx hs nx B zs W)(hb:Bw W W'):S23 K n w0 mb ws0 o0 wb vl vx hs nx B zs W':=⟨h.st.below (S23.keepB hB) hb,h.r,h.len⟩
theorem S23.below0 (h:S23 K n w0 mb ws0 o0 wb vl vx hs nx B zs W):Bw w0 W:=h.st.below0
theorem S23.know (h:S23 K n w0 mb ws0 o0 wb vl vx hs nx B zs W){Q:Wd->Prop}(hq:∀ W o,B W o->Q W):Q W:=h.st.know fun W o hh=>hq W o hh.2
theorem Fc :∀ p∈hs,p∈two++hs:=fun _ hp=>WY _ hp
theorem LwB.arg (q:Q23 n hs nx)(h:LwB n w0.heap.size (.slice al hs.length cl) vx hs W o):ArgI w0 W o al (hs.map Prod.fst):=by
 obtain⟨a,c,e,h1⟩:=(Lo h.1 h.2 Fc (by have:=q.h5;omega)).l;injection e with e1 e2 e3
 subst e1;refine⟨h1,fun x hx=>?_⟩;have hk:(Value.slice al hs.length cl).ownBlock=some x.block:=by rw[hx];rfl
 have:=h.1.own.lt _ hk;exact⟨this.2,this.1,h.1.no _ hk⟩
theorem S23.order (hB:AA B)(h:S23 K n w0 mb ws0 o0 wb vl vx hs nx B zs W) :
 Cl 19 #[Pt mb] W fun x w'=>∃ v,x=.returned v/\SliceIs w' v zs/\S23 K n w0 mb ws0 o0 wb vl vx hs nx (fun W o=>B W o/\AW v zs W o) zs w'/\Bw W w':=by
 refine(h.st.order (S23.keepB hB)).mono ?_;rintro x w' ⟨v,l,rfl,-,hP,-,-,hf,hb⟩;rw[hP] at hf;have g0:=hf.imp (P':=fun l=>l.map Int.ofNat=zs) fun l' _ e=>by rw[e];exact hP
 exact⟨v,rfl,g0.know fun W o hh=>hh.2.slice,⟨g0.withB fun _ _ _ _ hh=>⟨hh.1.1,hh.1.2,hh.2⟩,h.r,h.len⟩,hb⟩
theorem S23.left (q:Q23 n hs nx)(h:S23 K n w0 mb ws0 o0 wb vl vx hs nx B zs W):Cl 29 #[Pt mb,Iv (hs.length:Nat)] W (Sm (.bool true) W) :=
 h.st.ask fun o m V hs' _=>(QV hs' hs.length (by have:=q.h5;omega)).mono fun e w' ⟨h1,h2⟩=>⟨by rw[h1,WV (by simp[two])],h2⟩
end
section
variable {o:Own}{al:Option Addr}{cl:Nat}
theorem S23.all (q:Q23 n hs nx)(h:S23 K n w0 mb ws0 o0 wb (.slice al hs.length cl) vx hs nx B zs W) :
 Cl 28 #[Pt mb,.slice al hs.length cl,vx] W (Bl (.bool true) W):=by
 obtain⟨o,m,V,_,_,g0,hw,_⟩:=h.st;exact UH g0 (by have:=q.n6;omega) (Lo hw.1 hw.2 Fc (by have:=q.h5;omega))
theorem Fe (hK:AO K)(hB:AA B)(q:Q23 n hs nx)(h:S23 K n w0 mb ws0 o0 wb (.slice al hs.length cl) vx hs nx B zs W){a:Option Addr}(hz:Ar W a zs) :
 Cl 42 #[Pt mb,.slice a n c,.slice al hs.length cl,vx] W (Bl (.bool true) W):=by
 have g5:Hq (Cl 19 #[Pt mb] W fun x w'=>∃ b d,x=.returned (.slice b n d)/\Bw W w'/\Hq (Cl 95 #[.slice b n d,.slice a n c] w' (Bl (.bool true) w'))):=Hd (by
  refine(h.order hB).mono ?_;rintro x w' ⟨v,rfl,gc,h2,g0⟩;obtain⟨b,d,rfl,ga,-⟩:=gc;have hs:=N1 b a d c zs zs w' ga (hz.below g0);rw[WV rfl,h.len] at hs;rw[h.len];exact⟨b,d,rfl,g0,Hd (hs.mono fun x w2 ⟨h1,k,h2⟩=>⟨h1,by rw[h2];exact Am w' k⟩)⟩)
 have g9:Hq (∀ W2,Bw W W2->Cl 28 #[Pt mb,.slice al hs.length cl,vx] W2 (Bl (.bool true) W2)):=Hd fun W2 hb=>(h.below hB hb).all q
 have g7:Hq (∀ W2,Bw W W2->Cl 29 #[Pt mb,Iv (hs.length:Nat)] W2 (Sm (.bool true) W2)):=Hd fun W2 hb=>(h.below hB hb).left q
 have g6:=Hd (fun w=>N5 hK w);have ge:=q.h5;clear h q hB hz hK
 go_enter func42,ntmps42
 go_wp2_with fail;refine g5.o.mono ?_;rintro x w1 ⟨b,d,rfl,g4,HS⟩;have g8:=Hd g4;clear g4 g5;go_wp2_with fail;refine HS.o.mono ?_;rintro x w2 ⟨rfl,g0⟩;have HB2:=Hd (g8.o.trans (g0.mono g8.o.size));have HA:=Hd (g9.o w2 HB2.o);clear g0 HS g9;go_wp2_with fail;refine HA.o.mono ?_;rintro x w3 ⟨rfl,g3⟩;have g1:=Hd (HB2.o.trans (g3.mono HB2.o.size));have HL:=Hd (g7.o w3 g1.o);clear g3 HA g7;go_wp2_with fail;refine HL.o.mono ?_;rintro x w3' ⟨rfl,rfl⟩;have HV:=Hd (g6.o w3);clear HL g6;go_wp2_with fail;refine HV.o.mono ?_;rintro x w4 ⟨rfl,g2⟩;have gd:=Hd (g1.o.trans (g2.mono g1.o.size));clear g2 HV;go_wp2_with fail;go_ret;exact⟨rfl,gd.o⟩
def WinR (n:Nat)(Fs:List BF)(zs:List Int)(lv wd:Nat)(k:Nat)(ts:List Int):Prop:=∃ (vs:List Int) (b:Nat),vs.Perm ((zs.drop lv).take wd)/\Be wd vs/\AU (sizes22 n Fs zs vs lv wd) (ordR wd wd []).length b/\k=szO n Fs (winZ zs vs lv ((ordR wd wd []).getD b []))/\ts=winZ zs vs lv ((ordR wd wd []).getD b [])
abbrev Xy:=@List.mem_of_mem_take
theorem S23.window (hB:AA B)(q:Q23 n hs nx)(h:S23 K n w0 mb ws0 o0 wb (.slice al hs.length cl) vx hs nx B zs W){d:Nat}(hw1:1<=wd)(hw4:wd<=4)(hlw:lv+wd<=n)(hd:d<=hs.length) :
 Cl 41 #[Pt mb,Iv (lv:Nat),Iv (wd:Nat),.slice al d cl] W fun e w'=>∃ k ts,WinR n ((hs.take d).map Prod.snd) zs lv wd k ts/\k<=1000/\e=.returned (.tuple #[Iv (k:Nat),Iv 0])/\S23 K n w0 mb ws0 o0 wb (.slice al hs.length cl) vx hs nx B ts w':=by
 have g3:∀ W o,(LwB n w0.heap.size (.slice al hs.length cl) vx hs W o/\B W o)->ArgI w0 W o al ((hs.take d).map Prod.fst):=fun W o hh=>by
  have ha:=hh.1.arg q;refine⟨⟨by simp;have:=q.h5;omega,fun j hj=>?_⟩,ha.own⟩;simp at hj;obtain⟨b,off,e,hc⟩:=ha.z.cells j (by simp;omega);refine⟨b,off,e,?_⟩;rw[hc];congr 2;rw[As (by simp;omega),As (by simp;omega)];simp
 have g2:((hs.take d).map Prod.fst).length=d:=by simp;omega
 have:=Nw (c:=cl) (a:=al) (ks:=(hs.take d).map Prod.fst) (Fs:=(hs.take d).map Prod.snd) (S23.keepB hB) h.r h.len hw1 hw4 hlw q.nx q.room g3 (by simp) (fun i hi=>by
  simp only[X3];exact Fc _ (Xy (VG _))) (by
  rw[VP];refine Vy (Wm _ (show (hs.take d).length<=hs.length by simp;omega)) ?_;exact Vy (XU _ _) (Vy q.size (by omega))) h.st
 rw[g2] at this;refine Calls.mono this ?_;rintro e w' ⟨vs,b,h1,h2,h3,rfl,h4⟩;have hb:=h3.1;have g4:(ordR wd wd []).getD b []∈ordR wd wd []:=by rw[List.getD,VA hb];exact VG hb
 have g1:vs.length=wd:=by rw[h1.length_eq];simp;have:=h.len;omega
 obtain⟨p1,p2,_⟩:=Gq g4 g1;have hp:=Jm (lv:=lv) (zs:=zs) (by have:=h.len;omega) h1 p1 p2;have g0:(winZ zs vs lv ((ordR wd wd []).getD b [])).length=n:=by rw[hp.length_eq];exact h.len
 have hq:=E3 h.r h.len;refine⟨_,_,⟨vs,b,h1,h2,h3,rfl,rfl⟩,?_,rfl,h4,G3 ⟨hp.nodup_iff.2 hq.1,fun x hx=>hq.2 x (hp.mem_iff.1 hx)⟩ g0,g0⟩;refine Vy (Jj n _ _) (Vy (Wm _ (show ((hs.take d).map Prod.snd).length<=hs.length by simp;omega)) ?_);exact Vy (XU _ _) q.size
end
section
variable {P:List Nat->Prop}{a:Option Addr}
theorem UI (hB:AA B){lv wd:Int}(hno:¬ (1<=wd/\wd<=4/\0<=lv/\lv<=(n:Int)-wd))(hl:∀ W o,B W o->ArgI w0 W o a ks)(hlen:Fs.length=ks.length)(hmm:∀ i (h:i<ks.length),(ks[i],Fs[i]'(by omega))∈fs)
 (h:FxO K n room w0 mb ws0 C o0 wb B P fs nx W) :
 Cl 41 #[Pt mb,Iv lv,Iv wd,.slice a ks.length c] W fun e w'=>e=.returned (.tuple #[Iv 0,Iv 2])/\FxO K n room w0 mb ws0 C o0 wb B P fs nx w':=by
 have hn64:n<=64:=by obtain⟨o,m,V,_,_,h3,_⟩:=h;have:=h3.ok.store.small;rw[h3.vars] at this;exact this
 obtain⟨D,hD⟩:=Ex W.heap.size;obtain⟨B1,g0⟩:=Ex (fun W' o'=>(B W' o'/\BxN D (Iv lv) 3 W' o')/\BxN (D+1) (Iv wd) 3 W' o':Wd->Own->Prop)
 have gc:AA B1:=by rw[g0];exact(hB.and BxN.keep).and BxN.keep
 obtain⟨w1,g5⟩:=Ex ((W.alloc (.cells #[Iv lv] 3)).alloc (.cells #[Iv wd] 3));have t1:FxO K n room w0 mb ws0 C o0 wb B1 P fs nx w1:=by
  have:=FxO.box (hB.and BxN.keep) (FxO.box hB h (Iv lv) 3) (Iv wd) 3;rw[VK,<- hD] at this;rw[g5,g0];exact this
 have g8:Hq (∀ i,(hi:i<ks.length)->Cl 20 #[Pt mb,Iv (at0 ks i)] w1 (Sm (.bool true) w1)):=Hd fun i hi=>t1.ask fun o m V hs _=>by
  rw[As hi];exact IG hs (hmm i hi)
 have ga:Hq (∀ i,i<ks.length->∃ b off,a=some (Aw b off)/\w1.cell? (Aw b (off+i))=some (Iv (at0 ks i))):=Hd fun i hi=>by
  obtain⟨o,m,V,_,_,_,h4⟩:=t1;rw[g0] at h4;exact(hl _ _ h4.1.1).z.cells i hi
 have HV:Hq (∀ q,Cl 62 #[Pt mb] (w1.drewN q) fun x w'=>x=.returned (Iv n)/\w1.drewN q=w'):=Hd fun q=>(t1.below gc (Am w1 q)).vars
 have HF:Hq (∀ q,FxO K n room w0 mb ws0 C o0 wb B P fs nx (w1.drewN q)):=Hd fun q=>(t1.below gc (Am w1 q)).withB fun o m V _ hh=>by rw[g0] at hh;exact hh.1.1
 obtain⟨c0,c1⟩:w1.cell? (Av D)=some (Iv lv)/\w1.cell? (Av (D+1))=some (Iv wd):=by
  obtain⟨o,m,V,_,_,_,h4⟩:=t1;rw[g0] at h4;exact⟨h4.1.2.cell,h4.2.cell⟩
 have gd:ks.length<=9223372036854775807:=by
  obtain⟨o,m,V,_,_,_,h4⟩:=t1;rw[g0] at h4;exact(hl _ _ h4.1.1).z.len
 obtain⟨N,hN⟩:=Ex ks.length;rw[<- hN] at g8 ga gd ⊢;have HW1:=Hd g5.symm;clear h hN g5 t1 hl hmm hlen
 go_enter func41,ntmps41
 go_upto_region 1 with fail;rw[<- hD,HW1.o];clear HW1 hD;go_wp2_with fail
 go_loopw [8,9,11,28] (fun s8 s9 _ s28 wr=>∃ i:Nat,i<=N/\s8=Iv 0/\s9=Iv 0/\s28=Iv (i:Nat)/\wr=w1) (fun _ _ _ s28 _=>N-(intOf s28).toNat)
 case atStart=>exact⟨0,VC _,rfl,rfl,rfl,rfl⟩
 case round =>
  obtain⟨i,hi,rfl,rfl,rfl,rfl⟩:=hrel
  by_cases g6:i<N
  ·obtain⟨b,off,rfl,ci⟩:=ga.o i g6;have HI:=Hd (g8.o i g6);obtain⟨k1,g7⟩:=Ex (at0 ks i);rw[<- g7] at ci HI;have gf:(i:Int)<(N:Int):=by omega
   clear g7 HV hno;go_wp2_with fail;refine HI.o.mono ?_;rintro x w2 ⟨rfl,rfl⟩;clear HI;go_wp2_with fail;go_roundw
   case rel=>exact⟨i+1,g6,rfl,rfl,by go_num,(by first|rfl|trivial)⟩
   case measure=>simp[intOf];omega
  ·obtain rfl:i=N:=by omega
   have ge:(n:Int)<=64:=by omega
   clear g8 ga
   by_cases q1:wd<1
   ·skip
    clear hno;go_wp2_with fail
    go_quiet ((with_reducible exact BI (HV.o _)))
    go_wp2_with fail
    first
     | exact⟨rfl,HF.o _⟩
     | (refine VR (Xx rfl _ _ _) rfl ?_;exact⟨rfl,HF.o _⟩)
   ·have g1:¬ wd<1:=q1
    by_cases q2:wd>4
    ·skip
     clear hno;go_wp2_with fail
     go_quiet ((with_reducible exact BI (HV.o _)))
     go_wp2_with fail
     first
      | exact⟨rfl,HF.o _⟩
      | (refine VR (Xx rfl _ _ _) rfl ?_;exact⟨rfl,HF.o _⟩)
    ·have g2:¬ wd>4:=q2
     by_cases q3:lv<0
     ·skip
      clear hno;go_wp2_with fail
      go_quiet ((with_reducible exact BI (HV.o _)))
      go_wp2_with fail
      first
       | exact⟨rfl,HF.o _⟩
       | (refine VR (Xx rfl _ _ _) rfl ?_;exact⟨rfl,HF.o _⟩)
     ·have g3:¬ lv<0:=q3;have g4:lv>(n:Int)-wd:=by omega
      have g9:IntKind.i64.wrap ((n:Int)-wd)=(n:Int)-wd:=Xf _ (by omega);clear hno;go_wp2_with fail
      go_quiet ((with_reducible exact BI (HV.o _)))
      go_wp2_with fail
      first
       | exact⟨rfl,HF.o _⟩
       | (refine VR (Xx rfl _ _ _) rfl ?_;exact⟨rfl,HF.o _⟩)
end
section
variable {P:List Nat->Prop}{a:Option Addr}
theorem UJ (hB:AA B){lv wd z:Int}(hl:∀ W o,B W o->ArgI w0 W o a [z])(hk:∀ p∈fs,p.1≠z)(h:FxO K n room w0 mb ws0 C o0 wb B P fs nx W) :
 Cl 41 #[Pt mb,Iv lv,Iv wd,.slice a 1 c] W fun e w'=>e=.returned (.tuple #[Iv 0,Iv 8])/\FxO K n room w0 mb ws0 C o0 wb B P fs nx w':=by
 obtain⟨D,hD⟩:=Ex W.heap.size;obtain⟨B1,g1⟩:=Ex (fun W' o'=>(B W' o'/\BxN D (Iv lv) 3 W' o')/\BxN (D+1) (Iv wd) 3 W' o':Wd->Own->Prop)
 have g3:AA B1:=by rw[g1];exact(hB.and BxN.keep).and BxN.keep
 obtain⟨w1,g0⟩:=Ex ((W.alloc (.cells #[Iv lv] 3)).alloc (.cells #[Iv wd] 3));have t1:FxO K n room w0 mb ws0 C o0 wb B1 P fs nx w1:=by
  have:=FxO.box (hB.and BxN.keep) (FxO.box hB h (Iv lv) 3) (Iv wd) 3;rw[VK,<- hD] at this;rw[g0,g1];exact this
 have g2:Hq (Cl 20 #[Pt mb,Iv z] w1 (Sm (.bool false) w1)):=Hd (t1.ask fun o m V hs _=>Sz hs hk);obtain⟨b,off,rfl,ci⟩:∃ b off,a=some (Aw b off)/\w1.cell? (Aw b (off+0))=some (Iv z):=by
  obtain⟨o,m,V,_,_,_,h4⟩:=t1;rw[g1] at h4;exact(hl _ _ h4.1.1).z.cells 0 (by simp)
 have ci2:w1.cell? (Aw b off)=some (Iv z):=ci;have HF:Hq (FxO K n room w0 mb ws0 C o0 wb B P fs nx w1):=Hd (t1.withB fun o m V _ hh=>by rw[g1] at hh;exact hh.1.1);have HW1:=Hd g0.symm;clear h g0 t1 hl hk
 go_enter func41,ntmps41
 go_upto_region 1 with fail;rw[<- hD,HW1.o];clear HW1 hD;go_wp2_with fail
 go_loopw [8,9,11,28] (fun s8 s9 _ s28 wr=>s8=Iv 0/\s9=Iv 0/\s28=Iv 0/\wr=w1) (fun _ _ _ s28 _=>1-(intOf s28).toNat)
 case atStart=>exact⟨rfl,rfl,rfl,rfl⟩
 case round =>
  obtain⟨rfl,rfl,rfl,rfl⟩:=hrel;go_wp2_with fail;refine g2.o.mono ?_;rintro x w2 ⟨rfl,rfl⟩;clear g2;go_wp2_with fail
  first
   | exact⟨rfl,HF.o⟩
   | (refine VR (Xx rfl _ _ _) rfl ?_;exact⟨rfl,HF.o⟩)
end
section
variable {o:Own}{al:Option Addr}{cl:Nat}
theorem S23.order2 (hB:AA B)(h:S23 K n w0 mb ws0 o0 wb vl vx hs nx B zs W) :
 Cl 19 #[Pt mb] W fun x w'=>∃ v,x=.returned v/\OwnI w' W.heap.size v zs/\S23 K n w0 mb ws0 o0 wb vl vx hs nx (fun W o=>B W o/\AW v zs W o) zs w'/\Bw W w':=by
 refine(h.st.order (S23.keepB hB)).mono ?_;rintro x w' ⟨v,l,rfl,-,hP,-,ho,hf,hb⟩;rw[hP] at hf ho;have g0:=hf.imp (P':=fun l=>l.map Int.ofNat=zs) fun l' _ e=>by rw[e];exact hP
 exact⟨v,rfl,ho,⟨g0.withB fun _ _ _ _ hh=>⟨hh.1.1,hh.1.2,hh.2⟩,h.r,h.len⟩,hb⟩
theorem S23.windowBad (hB:AA B)(q:Q23 n hs nx)(h:S23 K n w0 mb ws0 o0 wb (.slice al hs.length cl) vx hs nx B zs W){lv wd:Int}{d:Nat}(hno:¬ (1<=wd/\wd<=4/\0<=lv/\lv<=(n:Int)-wd))(hd:d<=hs.length) :
 Cl 41 #[Pt mb,Iv lv,Iv wd,.slice al d cl] W fun e w'=>e=.returned (.tuple #[Iv 0,Iv 2])/\S23 K n w0 mb ws0 o0 wb (.slice al hs.length cl) vx hs nx B zs w':=by
 have g1:∀ W o,(LwB n w0.heap.size (.slice al hs.length cl) vx hs W o/\B W o)->ArgI w0 W o al ((hs.take d).map Prod.fst):=fun W o hh=>by
  have ha:=hh.1.arg q;refine⟨⟨by simp;have:=q.h5;omega,fun j hj=>?_⟩,ha.own⟩;simp at hj;obtain⟨b,off,e,hc⟩:=ha.z.cells j (by simp;omega);refine⟨b,off,e,?_⟩;rw[hc];congr 2;rw[As (by simp;omega),As (by simp;omega)];simp
 have g0:((hs.take d).map Prod.fst).length=d:=by simp;omega
 have:=UI (c:=cl) (a:=al) (ks:=(hs.take d).map Prod.fst) (Fs:=(hs.take d).map Prod.snd) (S23.keepB hB) hno g1 (by simp) (fun i hi=>by
  simp only[X3];exact Fc _ (Xy (VG _))) h.st
 rw[g0] at this;exact this.mono fun e w' hh=>⟨hh.1,hh.2,h.r,h.len⟩
theorem S23.windowUn (hB:AA B)(h:S23 K n w0 mb ws0 o0 wb vl vx hs nx B zs W){lv wd k:Int}(hk:∀ p∈two++hs,p.1≠k)(hT:W'=W.alloc (.cells #[Iv k] 3)) :
 Cl 41 #[Pt mb,Iv lv,Iv wd,.slice (some (Av W.heap.size)) 1 1] W' fun e w'=>e=.returned (.tuple #[Iv 0,Iv 8])/\S23 K n w0 mb ws0 o0 wb vl vx hs nx B zs w':=by
 subst hT;have h1:FxO K n (Bi n) w0 mb ws0 NoB o0 wb (fun W' o=>(LwB n w0.heap.size vl vx hs W' o/\B W' o)/\ArgB w0 (some (Av W.heap.size)) [k] W' o) (fun l=>l.map Int.ofNat=zs) (two++hs) nx (W.alloc (.cells #[Iv k] 3)):=by
  obtain⟨o,m,V,h1,h2,h3,h4⟩:=h.st;have hb:=Ah W (.cells #[Iv k] 3);have hc:=ChgX.of_below hb o NoB;exact⟨o,m,V,h1.trans hc NoB.sub,h2,h3.below hb,S23.keepB hB _ _ _ _ h4 hc,EZ W [k] (by simp),fun x hx=>by cases hx;exact⟨by simp,h3.chg.size,h3.lt.none (Vu _)⟩⟩
 refine(UJ ((S23.keepB hB).and ArgB.keep) (fun W o hh=>hh.2) hk h1).mono ?_;rintro e w' ⟨rfl,hf⟩;exact⟨rfl,hf.withB fun _ _ _ _ hh=>hh.1,h.r,h.len⟩
end
theorem SliceIs.empty (h:SliceIs W v []):SliceIs W' v []:=by
 obtain⟨a,c,e,⟨h1,h2⟩,h3⟩:=h;exact⟨a,c,e,⟨h1,fun k hk=>by simp at hk⟩,h3⟩
theorem SliceIs.block (h:SliceIs W v zs)(hne:zs≠[])(hk:v.ownBlock=some k):k<W.heap.size:=by
 obtain⟨a,c,rfl,h1,h3⟩:=h;obtain⟨b,off,rfl,hc⟩:=h1.cells 0 (List.length_pos_iff.2 hne);injection hk with hk
 subst hk;exact Af hc
section
theorem N6 {xs:List Value}(h2:Cr W xs gs)(hk:∀ i (h:i<xs.length) (h2:i<gs.length),gs[i]≠[]->∀ k,xs[i].ownBlock=some k->w'.heap[k]?=W.heap[k]?):Cr w' xs gs :=
 ⟨h2.len,fun i hi hi2=>by
  by_cases hne:gs[i]=[]
  . have:=h2.at_ i hi hi2;rw[hne] at this ⊢;exact this.empty
  . exact(h2.at_ i hi hi2).same fun k e=>hk i hi hi2 hne k e⟩
end
def ordS:Nat->List Int->List (List Int)
 | 0,_=>[[]]
 | k+1,ys=>ys.flatMap fun y=>(ordS k (ys.filter (fun x=>decide (x≠y)))).map (y :: ·)
def ordT (k:Nat)(ys:List Int)(r:Nat):List (List Int):=(ys.take r).flatMap fun y=>(ordS k (ys.filter (fun x=>decide (x≠y)))).map (y :: ·)
theorem UK {r:Nat}(h:r<ys.length):ordT k ys (r+1)=ordT k ys r++(ordS k (ys.filter (fun x=>decide (x≠at0 ys r)))).map (at0 ys r :: ·):=by
 unfold ordT;rw[Vz h,Xw];simp[As h]
theorem UL :ordT k ys ys.length=ordS (k+1) ys:=by
 unfold ordT;rw[Wb];rfl
theorem N7 {y:Int}(hs:ys.Pairwise (· < ·))(hm:y∈ys):(ys.filter (fun x=>decide (x≠y))).length+1=ys.length:=by
 induction ys with
 | nil=>cases hm
 | cons z ys ih =>
   rw[Yb] at hs
   by_cases e:z=y
   ·subst e;have:ys.filter (fun x=>decide (x≠z))=ys:=List.filter_eq_self.2 fun x hx=>by have:=hs.1 x hx;simp;omega
    rw[X4,this];simp
   ·have g0:y∈ys:=by
     rcases Wj.1 hm with h|h
     . exact absurd h.symm e
     . exact h
    have:=ih hs.2 g0;rw[X4,Vw (by simpa using e)];simpa using this
def fcN:Nat->Nat
 | 0=>1
 | k+1=>(k+1)*fcN k
theorem Jq {f:Int->List (List Int)}{c:Nat}:∀ (l:List Int),(∀ y∈l,(f y).length=c)->(l.flatMap f).length=l.length*c
 | [],_=>by simp
 | y::l,h=>by
   rw[WQ,Vx,h y (VM ..),Jq l fun z hz=>h z (Wi _ hz),VO,Xm];omega
theorem Gt:∀ (k:Nat) (ys:List Int),ys.length=k->ys.Pairwise (· < ·)->(ordS k ys).length=fcN k
 | 0,_,_,_=>rfl
 | k+1,ys,hl,hs=>by
   have h1:∀ y∈ys,((ordS k (ys.filter (fun x=>decide (x≠y)))).map (y :: ·)).length=fcN k:=fun y hy=>by
    rw[VP];exact Gt k _ (by have:=N7 hs hy;omega) (hs.sublist XV)
   show (ys.flatMap _).length=_
   rw[Jq ys h1,hl];rfl
theorem UM (hl:ys.length=k+1)(hs:ys.Pairwise (· < ·))(r:Nat):(ordT k ys r).length<=fcN (k+1):=by
 have h1:∀ y∈ys.take r,((ordS k (ys.filter (fun x=>decide (x≠y)))).map (y :: ·)).length=fcN k:=fun y hy=>by
  rw[VP];exact Gt k _ (by have:=N7 hs (Xy hy);omega) (hs.sublist XV)
 show ((ys.take r).flatMap _).length<=_
 rw[Jq _ h1]
 show _<=(k+1)*fcN k
 exact Wm _ (by rw[Wz];omega)
theorem Jr (h:k<=4):fcN k<=24:=by
 rcases(show k=0\/k=1\/k=2\/k=3\/k=4 by omega) with e|e|e|e|e<;>subst e<;>decide
theorem N8:∀ (k:Nat) (ys t:List Int),t∈ordS k ys->t.length=k
 | 0,_,t,h=>by rw[VB.1 h];rfl
 | k+1,ys,t,h=>by
   obtain⟨y,_,h2⟩:=XG.1 h;obtain⟨s,h3,rfl⟩:=VD.1 h2;simp[N8 k _ s h3]
theorem N9:∀ (k:Nat) (b l:List Int),ordL k b l=(ordS k l).map (b ++ ·)
 | 0,b,l=>by show [b]=[b++[]];rw[WU]
 | k+1,b,l=>by
   show l.flatMap _=(l.flatMap _).map _
   rw[List.map_flatMap];congr 1;funext v;rw[N9 k,Xa];congr 1;funext t;simp
theorem NA {f g:Int->List (List Int)}:∀ l:List Int,(∀ y∈l,f y=g y)->l.flatMap f=l.flatMap g
 | [],_=>rfl
 | y::l,h=>by rw[WQ,WQ,h y (VM ..),NA l fun z hz=>h z (Wi _ hz)]
theorem NB {f:Int->Int}:∀ (k:Nat) (l:List Int),(∀ x∈l,∀ y∈l,f x=f y->x=y)->ordS k (l.map f)=(ordS k l).map (List.map f)
 | 0,l,_=>rfl
 | k+1,l,hf=>by
   show (l.map f).flatMap _=(l.flatMap _).map _
   rw[List.flatMap_map,List.map_flatMap];have key:∀ y∈l,(ordS k ((l.map f).filter (fun x=>decide (x≠f y)))).map (f y :: ·)=((ordS k (l.filter (fun x=>decide (x≠y)))).map (y :: ·)).map (List.map f):=fun y hy=>by
    have e:(l.map f).filter (fun x=>decide (x≠f y))=(l.filter (fun x=>decide (x≠y))).map f:=by
     rw[List.filter_map];congr 1;refine List.filter_congr fun x hx=>?_
     simp only[Function.comp];congr 1;exact propext ⟨fun h e=>h (by rw[e]),fun h e=>h (hf x hx y hy e)⟩
    rw[e,NB k _ fun x hx z hz=>hf x (WO.1 hx).1 z (WO.1 hz).1,Xa,Xa];congr 1
   exact NA l key
theorem NC (hl:vs.length=wd)(hs:vs.Pairwise (· < ·)):ordS wd vs=(ordR wd wd []).map (List.map fun x=>at0 vs x.toNat):=by
 have h0:DM wd []=(List.range wd).map Int.ofNat:=by unfold DM;simp
 have h1:=JI wd wd [];rw[h0,N9] at h1;have h2:ordR wd wd []=ordS wd ((List.range wd).map Int.ofNat):=by rw[<- h1];simp
 rw[h2,<- NB]
 ·congr 1;rw[Xa];refine Xh (by simp[hl]) fun i q1 q2=>?_
  simp[As q1]
 ·intro x hx y hy e;obtain⟨i,hi,rfl⟩:=VD.1 hx;obtain⟨j,hj,rfl⟩:=VD.1 hy;rw[Xs] at hi hj;have e2:at0 vs i=at0 vs j:=e;have g0:=WE.1 hs;rw[As (by omega),As (by omega)] at e2;rcases Xz i j with c|c|c
  . have:=g0 i j (by omega) (by omega) c;omega
  . rw[c]
  . have:=g0 j i (by omega) (by omega) c;omega
def RowN (base:Nat)(v:Value)(gs:List (List Int))(W:Wd):Prop:=∃ xs,OwnC 22 W base v xs/\Cr W xs gs/\∀ i (h:i<xs.length) (h2:i<gs.length),gs[i]≠[]->∀ k,xs[i].ownBlock=some k->base<=k/\k<W.heap.size/\v.ownBlock≠some k
section
theorem RowN.is (h:RowN base v gs W)(hl:gs.length<=9223372036854775807):Dx W v gs:=by
 obtain⟨xs,h1,h2,_⟩:=h;exact Dx.of_own h1 h2 hl
theorem RowN.same (h:RowN base v gs W)(hk:∀ q,base<=q->q<W.heap.size->w'.heap[q]?=W.heap[q]?)(hs:W.heap.size<=w'.heap.size):RowN base v gs w':=by
 obtain⟨xs,h1,h2,h3⟩:=h;exact⟨xs,h1.same fun k e=>hk k (h1.lt k e).1 (h1.lt k e).2,N6 h2 fun i hi g1 g0 k e=>hk k (h3 i hi g1 g0 k e).1 (h3 i hi g1 g0 k e).2.1,fun i hi g1 g0 k e=>⟨(h3 i hi g1 g0 k e).1,VJ (h3 i hi g1 g0 k e).2.1 hs,(h3 i hi g1 g0 k e).2.2⟩⟩
theorem RowN.below (h:RowN base v gs W)(hb:Bw W w'):RowN base v gs w':=h.same (fun q _ h2=>hb.block q h2) hb.size
theorem RowN.lt (h:RowN base v gs W):∀ k,v.ownBlock=some k->base<=k/\k<W.heap.size:=by
 obtain⟨xs,h1,h2,h3⟩:=h;exact h1.lt
theorem RowN.app {xs:List Value}(h1:OwnC 22 W base v xs)(h2:Cr W xs gs)(h3:∀ i (h:i<xs.length) (h2:i<gs.length),gs[i]≠[]->∀ k,xs[i].ownBlock=some k->base<=k/\k<W.heap.size/\v.ownBlock≠some k){y:Value}{g:List Int}(hy:SliceIs W y g)(hyb:g≠[]->∀ k,y.ownBlock=some k->base<=k/\v.ownBlock≠some k)
 (g1:OwnC 22 w' base v' (xs++[y])) (hs:W.heap.size<=w'.heap.size) (hk:BA v v' W w'):RowN base v' (gs++[g]) w':=by
 have g6:Cr W (xs++[y]) (gs++[g]):=h2.snoc hy;have hl:=h2.len;have key:∀ i (h:i<(xs++[y]).length) (h2:i<(gs++[g]).length),(gs++[g])[i]≠[]->∀ k,(xs++[y])[i].ownBlock=some k->base<=k/\k<W.heap.size/\v.ownBlock≠some k:=by
  intro i hi g2 g0 k g4;rcases VE i xs.length with h4|h4
  . rw[Ww (by omega)] at g0;rw[Ww h4] at g4;exact h3 i h4 (by omega) g0 k g4
  ·have e:i=xs.length:=by simp at hi;omega
   subst e;rw[Wp (by omega)] at g0;rw[Wp (Vu _)] at g4;have g3:g≠[]:=by simpa using g0
   have g5:y.ownBlock=some k:=by simpa using g4
   exact⟨(hyb g3 k g5).1,hy.block g3 g5,(hyb g3 k g5).2⟩
 refine⟨xs++[y],g1,N6 g6 fun i hi g2 g0 k e=>hk.keep k (key i hi g2 g0 k e).2.1 (fun e2=>(key i hi g2 g0 k e).2.2 e2.symm),fun i hi g2 g0 k e=>⟨(key i hi g2 g0 k e).1,VJ (key i hi g2 g0 k e).2.1 hs,hk.ne (key i hi g2 g0 k e).2.2 (key i hi g2 g0 k e).2.1⟩⟩
end
def OrdC (k:Nat):Prop:=∀ (xs ys:List Int) (a:Option Addr) (c:Nat) (W:Wd),xs.length=k->Ar W a xs->ys.Perm xs->ys.Pairwise (· < ·)->(∀ y∈ys,0<=y)->Cl 102 #[.slice a k c] W fun e w'=>∃ v,e=.returned v/\RowN W.heap.size v (ordS k ys) w'/\Bw W w'
theorem UN:OrdC 0:=by
 intro xs ys a c W hl hz hp hs h0
 go_enter func102,ntmps102
 go_wp2_with fail;go_ret;refine⟨_,rfl,⟨[.slice none 0 0],⟨rfl,.inr ⟨W.heap.size,1,#[.slice none 0 0],rfl,Vu _,Vv _ _,Vu _,by unfold maxLen;omega,rfl,rfl⟩⟩,⟨rfl,fun i h1 h2=>?_⟩,fun i h1 h2 g0=>?_⟩,Ah _ _⟩
 ·obtain rfl:i=0:=by have h3:i<1:=h1;omega
  exact⟨none,0,rfl,⟨VC _,fun k hk=>absurd hk (Nat.not_lt_zero _)⟩,fun _=>rfl⟩
 ·obtain rfl:i=0:=by have h3:i<1:=h1;omega
  exact absurd rfl g0
def LsP (xs:List Int)(z:Int)(i:Nat)(l:Int):Prop:=(l = -1/\∀ j,j<i->at0 xs j<=z)\/∃ b:Nat,l=(b:Int)/\b<i/\z<at0 xs b/\∀ j,j<i->z<at0 xs j->at0 xs b<=at0 xs j
theorem ND {y:Int}(h:y∈xs):∃ j,j<xs.length/\at0 xs j=y:=by
 obtain⟨j,hj,e⟩:=WW h;exact⟨j,hj,by rw[As hj,e]⟩
theorem Js (h:j<xs.length):at0 xs j∈xs:=by
 rw[As h];exact VG h
theorem Jt (hs:ys.Pairwise (· < ·))(h:i<j)(hj:j<ys.length):at0 ys i<at0 ys j:=by
 rw[As (by omega),As hj];exact WE.1 hs i j (by omega) hj h
def lvZ (ys:List Int)(r:Nat):Int:=if r=0 then -1 else at0 ys (r-1)
theorem UO {r:Nat}{l:Int}(hp:ys.Perm xs)(hs:ys.Pairwise (· < ·))(h0:∀ y∈ys,0<=y)(hr:r<ys.length)(h:LsP xs (lvZ ys r) xs.length l):∃ b:Nat,l=(b:Int)/\b<xs.length/\at0 xs b=at0 ys r:=by
 have g2:lvZ ys r<at0 ys r:=by
  unfold lvZ;split
  . have:=h0 _ (Js hr);omega
  . exact Jt hs (by omega) hr
 obtain⟨j,hj,ej⟩:=ND (hp.mem_iff.1 (Js hr));rcases h with ⟨_,h1⟩|⟨b,rfl,hb,h1,h2⟩
 . have:=h1 j hj;omega
 ·refine⟨b,rfl,hb,?_⟩;have h3:=h2 j hj (by omega);obtain⟨q,hq,eq⟩:=ND (hp.mem_iff.2 (Js hb));have g1:r<=q:=by
   rcases VE q r with hc|hc
   ·exfalso;unfold lvZ at h1;rw[Vs (by omega)] at h1;rcases VE q (r-1) with g0|g0
    . have:=Jt hs g0 (by omega);omega
    ·obtain rfl:q=r-1:=by omega
     omega
   . exact hc
  rcases VE r q with hc|hc
  . have:=Jt hs hc hq;omega
  ·obtain rfl:q=r:=by omega
   exact eq.symm
theorem UP {y:Int}(hp:ys.Perm xs)(hs:ys.Pairwise (· < ·))(hb:b<xs.length)(e:at0 xs b=y):(ys.filter (fun x=>decide (x≠y))).Perm (xs.take b++xs.drop (b+1)):=by
 have g1:xs.Nodup:=hp.nodup_iff.1 (hs.imp fun h=>by omega);refine(hp.filter _).trans (.of_eq ?_);have e1:xs=xs.take b++y::xs.drop (b+1):=by
  rw[<- e,As hb,List.getElem_cons_drop,Xo]
 have g0:=g1;rw[e1] at g0;obtain⟨q1,q2,q3⟩:=Wh.1 g0;have q4:=(X0.1 q2).1;have f1:(xs.take b).filter (fun x=>decide (x≠y))=xs.take b:=List.filter_eq_self.2 fun x hx=>by simpa using q3 x hx y (VM ..)
 have f2:(xs.drop (b+1)).filter (fun x=>decide (x≠y))=xs.drop (b+1):=List.filter_eq_self.2 fun x hx=>by
  have:x≠y:=fun e=>q4 (e ▸ hx)
  simpa using this
 have e2:xs.filter (fun x=>decide (x≠y))=(xs.take b++y::xs.drop (b+1)).filter (fun x=>decide (x≠y)):=by rw[<- e1]
 rw[e2,WM,X4,f1,f2];simp
def reZ (m:List Int)(b i:Nat):List Int:=m.take (if i<=b then i else i-1)
theorem UQ {m:List Int}(hf:f<zs.length)(hm:m=zs.take f++zs.drop (f+1)):m.length+1=zs.length/\reZ m f 0=[]/\reZ m f zs.length=m/\reZ m f (f+1)=reZ m f f/\(∀ i,i<zs.length->i≠f->reZ m f (i+1)=reZ m f i++[at0 zs i])/\∀ i,(reZ m f i).length<=zs.length:=by
 have g3:m.length=zs.length-1:=by rw[hm];simp;omega
 have g1:∀ j,at0 m j=if j<f then at0 zs j else at0 zs (j+1):=by
  intro j;rw[hm]
  by_cases h:j<f
  . rw[Vw h,G0 (by simp;omega),E1 h]
  . rw[Vs h,G1 (by simp;omega),Fm];congr 1;simp;omega
 have g0:∀ k,k<m.length->m.take (k+1)=m.take k++[at0 m k]:=fun k hk=>by rw[Vz hk,As hk]
 refine⟨by omega,by simp[reZ],?_,?_,fun i hi g2=>?_,fun i=>by unfold reZ;rw[Wz];omega⟩
 . unfold reZ;rw[Vs (by omega)];exact Wv (by omega)
 . unfold reZ;rw[Vs (by omega),Vw (Vu _)];rfl
 ·unfold reZ
  by_cases e:i<f
  . rw[Vw (by omega),Vw (by omega),g0 i (by omega),g1,Vw e]
  . rw[Vs (by omega),Vs (by omega),show i+1-1=(i-1)+1 by omega,g0 (i-1) (by omega),g1,Vs (by omega),show i-1+1=i by omega]
theorem UR (hk4:k<4)(ih:OrdC k):OrdC (k+1):=by
 intro xs ys a c W hl hz hp hs h0;have gB:ys.length=k+1:=by rw[hp.length_eq,hl]
 have gy:Hq (∀ r,r<k+1->∀ l,LsP xs (lvZ ys r) (k+1) l->∃ b:Nat,l=(b:Int)/\b<k+1/\at0 xs b=at0 ys r):=Hd fun r hr l h=>by
  obtain⟨b,q1,q2,q3⟩:=UO hp hs h0 (show r<ys.length by omega) (by rw[hl];exact h);exact⟨b,q1,by omega,q3⟩
 have gu:Hq (∀ r b,r<k+1->b<k+1->at0 xs b=at0 ys r->(ys.filter (fun x=>decide (x≠at0 ys r))).Perm (xs.take b++xs.drop (b+1))):=Hd fun r b hr hb e=>UP hp hs (by omega) e
 have gi:Hq (∀ W',Bw W W'->∀ i,i<k+1->∃ b off,a=some (Aw b off)/\W'.cell? (Aw b (off+i))=some (Iv (at0 xs i))):=Hd fun W' hb i hi=>(hz.below hb).cells i (by omega)
 have k0:Hq (∀ y,(ys.filter (fun x=>decide (x≠y))).Pairwise (· < ·)):=Hd fun y=>hs.sublist XV
 have k4:Hq (∀ y,∀ x∈ys.filter (fun x=>decide (x≠y)),0<=x):=Hd fun y x hx=>h0 x (WO.1 hx).1
 have hZ:Hq (∀ r,(ordT k ys r).length<=24):=Hd fun r=>Vy (UM gB hs r) (Jr (by omega))
 have gN:Hq (∀ r,r<k+1->ordT k ys (r+1)=ordT k ys r++(ordS k (ys.filter (fun x=>decide (x≠at0 ys r)))).map (at0 ys r :: ·)):=Hd fun r hr=>UK (by omega)
 have gR:Hq (ordT k ys (k+1)=ordS (k+1) ys):=Hd (by have h:=UL (k:=k) (ys:=ys);rw[gB] at h;exact h);have hT:=Hd hl;have ka:=Hd ih;have hF:Hq (lvZ ys 0 = -1):=Hd rfl;have hE:Hq (∀ r,lvZ ys (r+1)=at0 ys r):=Hd fun r=>by unfold lvZ;rw[Vs (by omega),Nat.add_sub_cancel]
 have ky:Hq (∀ y,(ys.filter (fun x=>decide (x≠y))).length<=k+1):=Hd fun y=>by have:=WD (fun x=>decide (x≠y)) ys;omega
 obtain⟨L,hL⟩:=Ex (k+1);have gh:=Hd hL;have kw:L<=4:=by omega
 have kx:1<=L:=by omega
 rw[<- hL] at gy gu gi gN gR ⊢;clear hl hz hp hs h0 gB ih hL hk4;have kt:((L:Int) == 0)=false:=by rw[WT];omega
 go_enter func102,ntmps102
 go_wp2_with fail
 go_loopw [3,4,5] (fun s3 s4 s5 wr=>∃ (r:Nat) (u:Value),r<=L/\s3=u/\s4=Iv (lvZ ys r)/\s5=Iv (r:Nat)/\Hq (RowN W.heap.size u (ordT k ys r) wr)/\Hq (Bw W wr)) (fun _ _ s5 _=>L-(intOf s5).toNat)
 case atStart=>exact⟨0,_,VC _,rfl,by rw[hF.o],rfl,Hd ⟨[],Iy _ _ _,Cr.nil _,fun i h=>by simp at h⟩,Hd (VI _ _)⟩
 case round =>
  obtain⟨r,u,hr,rfl,rfl,rfl,HG,HB⟩:=hrel;obtain⟨wA,hN⟩:∃ W,W=wr:=⟨_,rfl⟩;subst hN
  by_cases gD:r<L
  ·have kn:(r:Int)<(L:Int):=by omega
   obtain⟨lz,gp⟩:∃ z,z=lvZ ys r:=⟨_,rfl⟩;have kz:=Hd gp;rw[<- gp];have HF:=Hd (gy.o r gD);rw[<- gp] at HF;clear gp;go_wp2_with fail
   go_loopw [6,7] (fun s6 s7 wr=>∃ (i:Nat) (l:Int),i<=L/\s6=Iv l/\s7=Iv (i:Nat)/\Hq (Bw wA wr)/\Hq (LsP xs lz i l)) (fun _ s7 _=>L-(intOf s7).toNat)
   case atStart=>exact⟨0,-1,VC _,rfl,rfl,Hd (VI _ _),Hd (.inl ⟨rfl,fun j hj=>by omega⟩)⟩
   case round =>
    obtain⟨i,l,hi,rfl,rfl,HB2,g5⟩:=hrel
    by_cases g3:i<L
    ·have gq:(i:Int)<(L:Int):=by omega
     obtain⟨bk,off,rfl,c1⟩:=gi.o wr (HB.o.trans (HB2.o.mono HB.o.size)) i g3;obtain⟨x,hx⟩:=Ex (at0 xs i);rw[<- hx] at c1;have HX:=Hd hx;clear hx
     by_cases gU:lz<x
     ·rcases g5.o with ⟨rfl,g0⟩|⟨b,rfl,hb,gf,g0⟩
      ·have HN:Hq (LsP xs lz (i+1) (i:Int)):=Hd (.inr ⟨i,rfl,by omega,by rw[<- HX.o];exact gU,fun j hj g7=>by
        by_cases e:j=i
        . rw[e];exact Yc _
        . have:=g0 j (by omega);omega⟩)
       clear g0 g5;go_wp2_with fail
       go_quiet (fail)
       go_wp2_with fail;go_roundw
       case rel=>exact⟨i+1,_,g3,rfl,by go_num,Hd (HB2.o.trans ((Am wr _).mono HB2.o.size)),HN⟩
       case measure=>simp[intOf];omega
      ·obtain⟨bk2,off2,e,c2⟩:=gi.o wr (HB.o.trans (HB2.o.mono HB.o.size)) b (by omega);injection e with e
       injection e with e1 e2
       subst e1 e2;obtain⟨y,hy⟩:=Ex (at0 xs b);rw[<- hy] at c2 gf;have HY:=Hd hy;have ku:(b:Int)<(L:Int):=by omega
       have kv:¬ (b:Int)<0:=by omega
       clear hy
       by_cases kh:x<y
       ·have HN:Hq (LsP xs lz (i+1) (i:Int)):=Hd (.inr ⟨i,rfl,by omega,by rw[<- HX.o];exact gU,fun j hj g7=>by
         by_cases e:j=i
         . rw[e];exact Yc _
         . have:=g0 j (by omega) g7;rw[<- HY.o] at this;rw[<- HX.o];omega⟩)
        clear g0 g5;go_wp2_with fail
        go_quiet (fail)
        go_wp2_with fail;go_roundw
        case rel=>exact⟨i+1,_,g3,rfl,by go_num,Hd (HB2.o.trans ((Am wr _).mono HB2.o.size)),HN⟩
        case measure=>simp[intOf];omega
       ·have HN:Hq (LsP xs lz (i+1) (b:Int)):=Hd (.inr ⟨b,rfl,by omega,by rw[<- HY.o];exact gf,fun j hj g7=>by
         by_cases e:j=i
         . rw[e,<- HX.o,<- HY.o];omega
         . exact g0 j (by omega) g7⟩)
        clear g0 g5;go_wp2_with fail
        go_quiet (fail)
        go_wp2_with fail;go_roundw
        case rel=>exact⟨i+1,_,g3,rfl,by go_num,Hd (HB2.o.trans ((Am wr _).mono HB2.o.size)),HN⟩
        case measure=>simp[intOf];omega
     ·have HN:Hq (LsP xs lz (i+1) l):=Hd (by
       rcases g5.o with ⟨rfl,g0⟩|⟨b,rfl,hb,gf,g0⟩
       ·refine .inl ⟨rfl,fun j hj=>?_⟩
        by_cases e:j=i
        . rw[e,<- HX.o];omega
        . exact g0 j (by omega)
       ·refine .inr ⟨b,rfl,by omega,gf,fun j hj g7=>?_⟩
        by_cases e:j=i
        . rw[e,<- HX.o] at g7;omega
        . exact g0 j (by omega) g7)
      have ke:x<=lz:=by omega
      have ki:decide (lz<x)=false:=by simp;omega
      clear g5;go_wp2_with fail
      go_quiet (fail)
      go_wp2_with fail;go_roundw
      case rel=>exact⟨i+1,_,g3,rfl,by go_num,Hd (HB2.o.trans ((Am wr _).mono HB2.o.size)),HN⟩
      case measure=>simp[intOf];omega
    ·have gZ:i=L:=by omega
     have gl:=g5.o;rw[gZ] at gl;obtain⟨b,rfl,hb,gJ⟩:=HF.o l gl;have gq:¬ (i:Int)<(L:Int):=by omega
     clear g5 g3 hi gZ gl;obtain⟨wB,hK⟩:∃ W,W=wr:=⟨_,rfl⟩;subst hK;have gz:=Hd (HB.o.trans (HB2.o.mono HB.o.size));obtain⟨cb,coff,rfl,cc⟩:=gi.o wB gz.o b hb;rw[gJ] at cc;have g2:=gu.o r b gD hb gJ;have gd:=gN.o r gD;obtain⟨m,hm⟩:=Ex (xs.take b++xs.drop (b+1));rw[<- hm] at g2;have gV:xs.length=L:=by rw[hT.o,gh.o]
     obtain⟨z1,z2,z3,z4,z5,z6⟩:=UQ (zs:=xs) (by omega) hm;rw[gV] at z1 z3 z5 z6;have gk:=hE.o r;obtain⟨y,hy⟩:=Ex (at0 ys r);rw[<- hy] at cc g2 gd gk;obtain⟨fy,gI⟩:=Ex (ys.filter (fun x=>decide (x≠y)));rw[<- gI] at g2 gd;have gx:Hq (fy.Pairwise (· < ·)/\∀ x∈fy,0<=x):=Hd (by rw[gI];exact⟨k0.o y,k4.o y⟩);have gP:=Hd g2;have hn:=Hd gd;have k9:=Hd gk;have gX:m.length=k:=by have:=gh.o;omega
     have gv:=Hd gX;have he:=Hd z2;have ha:=Hd z3;have gg:=Hd z4;have h6:=Hd z5;have hd:=Hd z6;have gf:(b:Int)<(L:Int):=by omega
     clear hm gV z1 z2 z3 z4 z5 z6 gJ hy gI g2 gd gk gX HF;go_wp2_with fail
     go_loopw [8,9] (fun s8 s9 wr=>∃ (i:Nat) (u:Value),i<=L/\s8=u/\s9=Iv (i:Nat)/\Hq (OwnI wr wB.heap.size u (reZ m b i))/\Hq (Bw wB wr)) (fun _ s9 _=>L-(intOf s9).toNat)
     case atStart=>exact⟨0,_,VC _,rfl,rfl,Hd (by rw[he.o];exact U6 wB _),Hd (VI _ _)⟩
     case round =>
      obtain⟨i,u,hi,rfl,rfl,HO,gc⟩:=hrel
      by_cases g6:i<L
      ·have gq:(i:Int)<(L:Int):=by omega
       by_cases e:i=b
       ·subst e;have k6:Hq (OwnI wr wB.heap.size u8 (reZ m i (i+1))):=Hd (by rw[gg.o];exact HO.o);go_wp2_with fail;go_roundw
        case rel=>exact⟨i+1,_,g6,rfl,by go_num,k6,gc⟩
        case measure=>simp[intOf];omega
       ·obtain⟨bk,off,e2,hc⟩:=gi.o wr (gz.o.trans (gc.o.mono gz.o.size)) i g6;injection e2 with e2
        injection e2 with e21 e22
        subst e21 e22;have kr:((i:Int) != (b:Int))=true:=by rw[bne_iff_ne];omega
        have hS:=h6.o i g6 e;obtain⟨x,hx⟩:=Ex (at0 xs i);rw[<- hx] at hc hS;have HS:=Hd hS;have ko:=hd.o i;clear hx hS;go_wp2_with (at_builtin;refine CO _ rfl _ _ rfl wB.heap.size wB u8 (reZ m b i) x rfl rfl rfl rfl HO.o (by omega) gc.o.size gc.o ?_;intro v4 w4 g1 g9 hv hw);have HN:Hq (OwnI w4 wB.heap.size v4 (reZ m b (i+1))):=Hd (by rw[HS.o];exact g1);have g8:=Hd g9;clear g1 g9 hv hw;go_roundw
        case rel=>exact⟨i+1,_,g6,rfl,by go_num,HN,g8⟩
        case measure=>simp[intOf];omega
      ·have ho:Hq (OwnI wr wB.heap.size u8 m):=Hd (by
        have e:i=L:=by omega
        have:=HO.o
        rwa [e,ha.o] at this)
       have kf:¬ (i:Int)<(L:Int):=by omega
       clear HO g6 hi;obtain⟨wC,hJ⟩:∃ W,W=wr:=⟨_,rfl⟩;subst hJ;obtain⟨a8,c8,e8,gT,_⟩:=ho.o.sliceIs (by have h1:=gv.o;have h2:=gh.o;omega);rw[gv.o] at e8;subst e8;have gO:=Hd (ka.o m fy a8 c8 wC gv.o gT gP.o gx.o.1 gx.o.2);have gS:=Hd (HB2.o.trans (gc.o.mono HB2.o.size));clear gT ho;go_wp2_with fail;refine gO.o.mono ?_;rintro x0 wD ⟨v,rfl,hg,gL⟩;have gF:(ordS k fy).length=fcN k:=Gt k fy (by rw[gP.o.length_eq,gv.o]) gx.o.1;have gH:(ordS k fy).length<=24:=by rw[gF];exact Jr (by have:=gh.o;omega)
       have gG:∀ g∈ordS k fy,g.length<=4:=fun g hg=>by have:=N8 k fy g hg;have:=gh.o;omega
       obtain⟨gs,gE⟩:=Ex (ordS k fy);rw[<- gE] at hg gH gG;have hD:Hq (ordT k ys (r+1)=ordT k ys r++gs.map (y :: ·)):=Hd (by rw[gE];exact hn.o);have kb:=Hd gG;have ht:=Hd (gS.o.trans (gL.mono gS.o.size));have kd:=Hd (HB.o.trans (ht.o.mono HB.o.size));have hh:Hq (RowN W.heap.size u3 (ordT k ys r) wD):=Hd (HG.o.below ht.o);have kl:wA.heap.size<=wC.heap.size:=gS.o.size;have kk:wC.heap.size<=wD.heap.size:=gL.size;have kj:W.heap.size<=wA.heap.size:=HB.o.size;have hk:Hq (∀ q,u3.ownBlock=some q->q<wC.heap.size\/wD.heap.size<=q):=Hd fun q e=>.inl (by have:=(HG.o.lt q e).2;omega)
       have HV:=Hd hg;obtain⟨av,cv,rfl,kq⟩:=(hg.is (by omega)).slice;obtain⟨M,hM⟩:=Ex gs.length;have gw:=Hd hM;rw[<- hM] at gH ⊢;have hY:=Hd (hZ.o r);clear hg gL gF gG gE hM HG gO hn gP he ha gg h6 hd gx HB HB2 gc gz cc;go_wp2_with fail
       go_loopw [3,11] (fun s3 s11 wr=>∃ (i:Nat) (u:Value),i<=M/\s3=u/\s11=Iv (i:Nat)/\Hq (RowN W.heap.size u (ordT k ys r++(gs.take i).map (y :: ·)) wr)/\Hq (∀ q,u.ownBlock=some q->q<wC.heap.size\/wD.heap.size<=q)/\Hq (∀ q,wC.heap.size<=q->q<wD.heap.size->wr.heap[q]?=wD.heap[q]?)/\Hq (wD.heap.size<=wr.heap.size)/\Hq (Bw W wr)) (fun _ s11 _=>M-(intOf s11).toNat)
       case atStart=>exact⟨0,_,VC _,rfl,rfl,Hd (by rw[List.take_zero,List.map_nil,WU];exact hh.o),hk,Hd (fun _ _ _=>rfl),Hd (Vu _),kd⟩
       case round =>
        obtain⟨i,u,hi,rfl,rfl,HU,gm,gQ,HSZ,ga⟩:=hrel;clear hh hk
        by_cases gC:i<M
        ·have gq:(i:Int)<(M:Int):=by omega
         have gr:i<gs.length:=by rw[<- gw.o];exact gC
         have hf:Hq (RowN wC.heap.size (.slice av M cv) gs wr):=Hd (by have h:=HV.o.same gQ.o HSZ.o;rwa [<- gw.o] at h);obtain⟨bv,ov,c9,a2,c2,e9,hc,gA,hP⟩:=(hf.o.is (by rw[<- gw.o];omega)).elem gr;injection e9 with e91 e92 e93
         subst e91;obtain⟨g,gt⟩:=Ex (gs.getD i []);rw[<- gt] at hc gA;have gF:g.length<=4:=by rw[gt];exact kb.o _ (U3 gr)
         have h5:g=gs[i]:=by rw[gt];simp[List.getD,gr]
         have k7:Hq (ordT k ys r++(gs.take (i+1)).map (y :: ·)=(ordT k ys r++(gs.take i).map (y :: ·))++[y::g]):=Hd (by rw[Vz gr,VU,<- VH,h5];rfl);obtain⟨wE,gn⟩:∃ X,X=wr.alloc (.cells #[Iv y] 3):=⟨_,rfl⟩;have gj:Hq (Bw wr wE):=Hd (by rw[gn];exact Ah _ _);have gg:Hq (Ar wE a2 g):=Hd (gA.below gj.o)
         have hq:Hq (OwnI wE wr.heap.size (.slice (some (Av wr.heap.size)) 1 1) [y]):=Hd (by
          rw[gn];exact⟨rfl,.inr ⟨wr.heap.size,1,#[Iv y],rfl,Vu _,Vv _ _,Vu _,by unfold maxLen;omega,rfl,rfl⟩⟩)
         have hQ:=Cq gj.o hc;rw[gn] at gg hq gj hQ;have hO:wr.heap.size<=(wr.alloc (.cells #[Iv y] 3)).heap.size:=gj.o.size;clear gt h5 gA gn e92 e93;have gY:(ordT k ys r++(gs.take i).map (y :: ·)).length<=100:=by
          have:=hY.o;rw[Vx,VP,Wz];omega
         have k5:=Hd gY;clear gY hf
         go_wp2_with (at_builtin;first
          | (refine Cz TB w4 rfl _ _ rfl W.heap.size u3 xsR _ rfl rfl rfl rfl rfl gM.o hu gK ?_;intro u5 w5 go e1 e2 e3 e4 ge)
          | (refine De rfl _ _ rfl wr.heap.size wr (.slice (some ⟨wr.heap.size,0,none⟩) 1 1) [y] g a2 c2 rfl rfl hq.o gg.o (by simp;omega) hO gj.o hP ?_;intro v4 w4 g1 g9 km hk4;obtain⟨g4,cap4,rfl,hA,kg⟩:=g1.shape (by simp);have kc:=Hd hA;have k3:=Hd (g1.sliceIs (by simp;omega));have hX:=HU.o.below g9;obtain⟨xsR,q1,q2,q3⟩:=hX;have gM:=Hd q1;have hW:=Hd q2;have hU:=Hd q3;have hu:xsR.length<1099511627776:=(by have h7:=k5.o;have h8:=q2.len;omega);have gK:W.heap.size<=w4.heap.size:=(by have:=ga.o.size;omega);have g8:=Hd g9;clear g1 g9 hk4 q1 q2 q3))
         have k8:Hq (RowN W.heap.size u5 (ordT k ys r++(gs.take (i+1)).map (y :: ·)) w5):=Hd (by
          rw[k7.o];refine RowN.app gM.o hW.o hU.o k3.o (fun _ q e=>?_) go e4 ge;injection e with e
          have h9:=ga.o.size;have hR:=kc.o;have e9:g4=q:=e;subst e9;exact⟨Vy h9 hR,fun e2=>by have:=(HU.o.lt _ e2).2;omega⟩)
         have hB:Hq (∀ q,u5.ownBlock=some q->q<wC.heap.size\/wD.heap.size<=q):=Hd fun q e=>by
          rcases ge.loc with h|⟨q2,h,kp⟩
          . rw[h] at e;exact gm.o q e
          . rw[h] at e;cases e;have h1:=HSZ.o;have h2:=g8.o.size;right;omega
         have hG:Hq (∀ q,wC.heap.size<=q->q<wD.heap.size->w5.heap[q]?=wD.heap[q]?):=Hd fun q h1 h2=>by
          have h3:=HSZ.o;have h4:=g8.o.size;refine(ge.keep q (by omega) fun e=>?_).trans ((g8.o.block q (by omega)).trans (gQ.o q h1 h2));rcases gm.o q e.symm with h|h<;>omega
         have hC:Hq (wD.heap.size<=w5.heap.size):=Hd (by have h3:=HSZ.o;have h4:=g8.o.size;omega);have hI:Hq (Bw W w5):=Hd (EM (ga.o.trans (g8.o.mono ga.o.size)) gM.o e1 e2 e3 e4 ge gK);clear go e1 e2 e3 e4 ge HU gm gQ HSZ ga;go_wp2_with fail;go_roundw
         case rel=>exact⟨i+1,_,gC,rfl,by go_num,k8,hB,hG,hC,hI⟩
         case measure=>simp[intOf];omega
        ·have hH:Hq (RowN W.heap.size u3 (ordT k ys (r+1)) wr):=Hd (by
          have e:i=gs.length:=by rw[<- gw.o];omega
          have h:=HU.o;rw[e,Wb,<- hD.o] at h;exact h)
         have gq:¬ (i:Int)<(M:Int):=by omega
         clear HU;go_wp2_with fail;go_roundw
         case rel=>exact⟨r+1,_,by omega,rfl,by rw[k9.o],by go_num,hH,ga⟩
         case measure=>simp[intOf];omega
  ·obtain rfl:r=L:=by omega
   have HN:Hq (RowN W.heap.size u3 (ordS r ys) wA):=Hd (by rw[<- gR.o];exact HG.o);have HB2:=Hd HB.o;clear HG HB;go_wp2_with fail;go_ret;exact⟨_,rfl,HN.o,HB2.o⟩
theorem NE:∀ k,k<=4->OrdC k
 | 0,_=>UN
 | k+1,h=>UR (by omega) (NE k (by omega))
def CF (F:BF):Prop:=∃ c,F=fun _=>c
def simF (G F:BF):Prop:=G=F\/G=notF F
theorem Gu (F:BF):notF (notF F)=F:=funext fun ρ=>by show (!(!F ρ))=F ρ;simp
theorem simF.symm {G F:BF}(h:simF G F):simF F G:=by
 rcases h with h|h
 . exact .inl h.symm
 . exact .inr (by rw[h,Gu])
theorem simF.trans (h:simF G F)(h':simF F H):simF G H:=by
 rcases h with rfl|rfl
 . exact h'
 ·rcases h' with rfl|rfl
  . exact .inr rfl
  . exact .inl (Gu _)
theorem simF.const (h:simF G F)(hc:CF G):CF F:=by
 obtain⟨c,rfl⟩:=hc;rcases h.symm with rfl|rfl
 . exact⟨c,rfl⟩
 . exact⟨!c,rfl⟩
theorem simF.cof (h:simF G F)(v:Nat)(b:Bool):simF (cofF G v b) (cofF F v b):=by
 rcases h with rfl|rfl
 . exact .inl rfl
 . exact .inr rfl
theorem Cf {l:List BF}:Bj l F↔∃ G∈l,simF G F :=
 ⟨fun⟨i,hi,h⟩=>⟨l[i],VG hi,h⟩,fun⟨G,hG,h⟩=>by
  obtain⟨i,hi,rfl⟩:=WW hG;exact⟨i,hi,h⟩⟩
def okF (l:List BF)(F:BF):Prop:=CF F\/Bj l F
theorem okF.sim {l:List BF}(h:okF l F)(hs:simF F G):okF l G:=by
 rcases h with h|h
 . exact .inl (hs.const h)
 . obtain⟨H,hH,e⟩:=Cf.1 h;exact .inr (Cf.2 ⟨H,hH,e.trans hs⟩)
theorem okF.mono {l l':List BF}(h:okF l F)(hs:∀ X∈l,X∈l'):okF l' F:=h.imp id fun h=>by
 obtain⟨H,hH,e⟩:=Cf.1 h;exact Cf.2 ⟨H,hs H hH,e⟩
theorem okF.mem {l:List BF}(h:F∈l):okF l F:=.inr (Cf.2 ⟨F,h,.inl rfl⟩)
def DisF (l:List BF):Prop:=l.Pairwise (fun G F=>¬ simF G F)/\∀ G∈l,¬ CF G
theorem DisF.snoc {l:List BF}(h:DisF l)(hn:¬ okF l F):DisF (l++[F]):=by
 refine⟨List.pairwise_append.2 ⟨h.1,List.pairwise_singleton _ _,fun G hG H hH e=>?_⟩,fun G hG=>?_⟩
 . rw[VB.1 hH] at e;exact hn (.inr (Cf.2 ⟨G,hG,e⟩))
 ·rcases VF.1 hG with h1|h1
  . exact h.2 G h1
  . rw[VB.1 h1];exact fun hc=>hn (.inl hc)
theorem Ju:∀ (l1 l2:List BF),DisF l1->(∀ X∈l1,Bj l2 X)->l1.length<=l2.length
 | [],_,_,_=>VC _
 | x::l1,l2,h,hc=>by
   obtain⟨G,hG,e⟩:=Cf.1 (hc x (VM ..));obtain⟨a,b,rfl⟩:=List.append_of_mem hG;have hp:=Yb.1 h.1;have:=Ju l1 (a++b) ⟨hp.2,fun G hG=>h.2 G (Wi _ hG)⟩ fun y hy=>by
    obtain⟨H,hH,e2⟩:=Cf.1 (hc y (Wi _ hy));refine Cf.2 ⟨H,?_,e2⟩;rcases VF.1 hH with q|q
    . exact Wx _ q
    ·rcases Wj.1 q with q|q
     . subst q;exact(hp.1 y hy (e.symm.trans e2)).elim
     . exact WY _ q
   simp only[Vx,VO] at this ⊢;omega
section
variable {l A:List BF}
theorem US (h:simF F G)(hd:DepF n F):DepF n G:=by
 rcases h.symm with rfl|rfl
 . exact hd
 . exact fun ρ ρ' e=>by show (!F ρ) = !F ρ';rw[hd ρ ρ' e]
theorem UT (h:simF F G)(hd:DepF n F)(v:Nat):AS n F v=AS n G v:=by
 rw[Bool.eq_iff_iff,Dd hd,Dd (US h hd)];rcases h with rfl|rfl
 . exact Iff.rfl
 ·refine not_congr ⟨fun e=>?_,fun e=>?_⟩
  . have e2:notF (cofF G v false)=notF (cofF G v true):=e;rw[<- Gu (cofF G v false),e2,Gu]
  ·show notF (cofF G v false)=notF (cofF G v true)
   rw[e]
theorem NF (h:simF F G)(hd:DepF n F):∀ os:List Nat,topR n F os=topR n G os
 | []=>rfl
 | v::os=>by
   unfold topR;rw[UT h hd v,NF h hd os]
def Clo (n:Nat)(os:List Nat)(A:List BF)(F:BF):Prop:=∀ b,okF A (cofF F (topR n F os).toNat b)
theorem Clo.sim (h:Clo n os A F)(hs:simF F G)(hd:DepF n F):Clo n os A G:=fun b=>by
 rw[<- NF hs hd os];exact(h b).sim (hs.cof _ b)
theorem Clo.mono {A':List BF}(h:Clo n os A F)(hs:∀ X∈A,X∈A'):Clo n os A' F:=fun b=>(h b).mono hs
theorem Es:∀ (k:Nat) (l:List BF) (F:BF),∀ X∈l,X∈belF n os k l F
 | 0,_,_,_,h=>h
 | k+1,l,F,X,h=>by
   unfold belF;split
   . exact h
   . exact Es k _ _ _ (Es k _ _ _ (Wx _ h))
theorem Jv:∀ (k:Nat) (l:List BF) (F:BF),DisF l->DisF (belF n os k l F)
 | 0,_,_,h=>h
 | k+1,l,F,h=>by
   unfold belF;split
   . exact h
   ·rename_i hn
    exact Jv k _ _ (Jv k _ _ (h.snoc hn))
theorem Jw (hl:os.length=n)(hlt:∀ v∈os,v<n)(hmem:∀ v,v<n->v∈os):∀ (k p:Nat) (l X:List BF) (F:BF),p+k=n->DepF n F->PosF os p F->(∀ G∈l,G∈X\/Clo n os l G)->okF (belF n os k l F) F/\∀ G∈belF n os k l F,G∈X\/Clo n os (belF n os k l F) G
 | 0,p,l,X,F,hp,hd,hq,hc=>by
   obtain rfl:p=n:=by omega
   exact⟨.inl (MU hd hq hl hmem),hc⟩
 | k+1,p,l,X,F,hp,hd,hq,hc=>by
   by_cases hs:(∃ c,F=fun _=>c)\/Bj l F
   . rw[IW hs];exact⟨hs,hc⟩
   ·obtain⟨v,e,hv,g0⟩:=TF hd hq hlt hmem (fun h=>hs (.inl h));rw[MV hs e];obtain⟨i1,i2⟩:=Jw hl hlt hmem k (p+1) (l++[F]) (F::X) (cofF F v false) (by omega) (g0 false).2 (g0 false).1 fun G hG=>by
     rcases VF.1 hG with h1|h1
     ·rcases hc G h1 with h2|h2
      . exact .inl (Wi _ h2)
      . exact .inr (h2.mono fun X hX=>Wx _ hX)
     . exact .inl (Wj.2 (.inl (VB.1 h1)))
    obtain⟨l2,g1⟩:∃ q,q=belF n os k (l++[F]) (cofF F v false):=⟨_,rfl⟩;have g2:F∈l2:=by rw[g1];exact Es k _ _ _ (WY _ (VB.2 rfl))
    rw[<- g1] at i1 i2 ⊢;obtain⟨j1,j2⟩:=Jw hl hlt hmem k (p+1) l2 (F::X) (cofF F v true) (by omega) (g0 true).2 (g0 true).1 i2;refine⟨okF.mem (Es k _ _ _ g2),fun G hG=>?_⟩;rcases j2 G hG with h1|h1
    ·rcases Wj.1 h1 with h2|h2
     ·right;subst h2;intro b;rw[e];cases b with
      | false=>exact i1.mono (Es k _ _)
      | true=>exact j1
     . exact .inl h2
    . exact .inr h1
theorem NG (hl:os.length=n)(hlt:∀ v∈os,v<n)(hmem:∀ v,v<n->v∈os):∀ (Gs l:List BF),(∀ G∈Gs,DepF n G)->(∀ G∈l,DepF n G)->DisF l->(∀ G∈l,Clo n os l G)->(∀ G∈Gs,okF (Gs.foldl (fun l G=>belF n os n l G) l) G)/\(∀ G∈l,G∈Gs.foldl (fun l G=>belF n os n l G) l)/\DisF (Gs.foldl (fun l G=>belF n os n l G) l)/\(∀ G∈Gs.foldl (fun l G=>belF n os n l G) l,Clo n os (Gs.foldl (fun l G=>belF n os n l G) l) G)/\∀ G∈Gs.foldl (fun l G=>belF n os n l G) l,DepF n G
 | [],l,_,hd,h1,h2=>⟨(fun G hG=>by cases hG),fun G hG=>hG,h1,h2,hd⟩
 | F::Gs,l,hg,hd,h1,h2=>by
   obtain⟨q1,q2⟩:=Jw hl hlt hmem n 0 l [] F (by omega) (hg F (VM ..)) (fun j hj=>by omega) fun G hG=>.inr (h2 G hG)
   obtain⟨r1,r2,r3,r4,r5⟩:=NG hl hlt hmem Gs (belF n os n l F) (fun G hG=>hg G (Wi _ hG)) (Gn n os n l F hd (hg F (VM ..))) (Jv n l F h1) fun G hG=>(q2 G hG).resolve_left (fun e=>by cases e)
   refine⟨fun G hG=>?_,fun G hG=>r2 G (Es n l F G hG),r3,r4,r5⟩;rcases Wj.1 hG with rfl|hG
   . exact q1.mono r2
   . exact r1 G hG
theorem Jx (hA:∀ X∈A,Clo n os A X/\DepF n X):∀ (k:Nat) (l:List BF) (F:BF),(∀ G∈l,Bj A G)->okF A F->∀ G∈belF n os k l F,Bj A G
 | 0,_,_,h,_=>h
 | k+1,l,F,h,hF=>by
   unfold belF;split
   . exact h
   ·rename_i hn
    have ha:Bj A F:=hF.resolve_left fun e=>hn (.inl e)
    obtain⟨Z,hZ,e⟩:=Cf.1 ha;have hc:Clo n os A F:=(hA Z hZ).1.sim e (hA Z hZ).2
    exact Jx hA k _ _ (Jx hA k _ _ (fun G hG=>by
     rcases VF.1 hG with h1|h1
     . exact h G h1
     . rw[VB.1 h1];exact ha) (hc false)) (hc true)
theorem NH (hA:∀ X∈A,Clo n os A X/\DepF n X):∀ (Gs l:List BF),(∀ G∈l,Bj A G)->(∀ G∈Gs,okF A G)->∀ G∈Gs.foldl (fun l G=>belF n os n l G) l,Bj A G
 | [],_,h,_=>h
 | F::Gs,l,h,hg=>NH hA Gs _ (Jx hA n l F h (hg F (VM ..))) fun G hG=>hg G (Wi _ hG)
end
open Classical in
noncomputable def addF (all:List BF)(F:BF):List BF:=if okF all F then all else all++[F]
open Classical in
noncomputable def nextF (v:Nat)(nx:List BF)(F:BF):List BF:=if CF F then nx else addF (addF nx (cofF F v false)) (cofF F v true)
noncomputable def bfsF:List Nat->List BF->List BF->List BF
 | [],all,now=>now.foldl addF all
 | v::os,all,now=>bfsF os (now.foldl addF all) (now.foldl (nextF v) [])
theorem Gv {all:List BF}{X:BF}(h:X∈all):X∈addF all F:=by
 unfold addF;split
 . exact h
 . exact Wx _ h
theorem Jy (all:List BF)(F:BF):okF (addF all F) F:=by
 unfold addF;split
 . rename_i h;exact h
 . exact okF.mem (WY _ (VB.2 rfl))
theorem Ff {all:List BF}{X:BF}(h:X∈addF all F):X∈all\/X=F/\¬ CF F:=by
 unfold addF at h;split at h
 . exact .inl h
 ·rename_i hn
  rcases VF.1 h with h|h
  . exact .inl h
  . exact .inr ⟨VB.1 h,fun e=>hn (.inl e)⟩
theorem UU {all:List BF}(h:DisF all)(F:BF):DisF (addF all F):=by
 unfold addF;split
 . exact h
 . rename_i hn;exact h.snoc hn
theorem Cu:∀ (now all:List BF),(∀ X∈all,X∈now.foldl addF all)/\(∀ F∈now,okF (now.foldl addF all) F)/\(∀ X∈now.foldl addF all,X∈all\/X∈now/\¬ CF X)/\(DisF all->DisF (now.foldl addF all))
 | [],all=>⟨fun _ h=>h,(fun F h=>by cases h),fun _ h=>.inl h,id⟩
 | F::now,all=>by
   obtain⟨h1,h2,h3,h4⟩:=Cu now (addF all F);refine⟨fun X hX=>h1 X (Gv hX),fun G hG=>?_,fun X hX=>?_,fun hd=>h4 (UU hd F)⟩
   ·rcases Wj.1 hG with rfl|hG
    . exact(Jy all G).mono h1
    . exact h2 G hG
   ·rcases h3 X hX with h|⟨h,hc⟩
    ·rcases Ff h with h|⟨rfl,hc⟩
     . exact .inl h
     . exact .inr ⟨VM ..,hc⟩
    . exact .inr ⟨Wi _ h,hc⟩
theorem UV {v:Nat}{nx:List BF}{X:BF}(h:X∈nx):X∈nextF v nx F:=by
 unfold nextF;split
 . exact h
 . exact Gv (Gv h)
theorem Et (v:Nat):∀ (now nx:List BF),(∀ X∈nx,X∈now.foldl (nextF v) nx)/\(∀ F∈now,¬ CF F->∀ b,okF (now.foldl (nextF v) nx) (cofF F v b))/\(∀ Y∈now.foldl (nextF v) nx,Y∈nx\/∃ F∈now,¬ CF F/\∃ b,Y=cofF F v b)
 | [],nx=>⟨fun _ h=>h,(fun F h=>by cases h),fun _ h=>.inl h⟩
 | F::now,nx=>by
   obtain⟨h1,h2,h3⟩:=Et v now (nextF v nx F);refine⟨fun X hX=>h1 X (UV hX),fun G hG hc b=>?_,fun Y hY=>?_⟩
   ·rcases Wj.1 hG with rfl|hG
    ·refine okF.mono ?_ h1;unfold nextF;rw[Vs hc];cases b with
     | false=>exact(Jy nx _).mono fun X hX=>Gv hX
     | true=>exact Jy _ _
    . exact h2 G hG hc b
   ·rcases h3 Y hY with h|⟨G,hG,hc⟩
    ·unfold nextF at h;split at h
     . exact .inl h
     ·rename_i hc
      rcases Ff h with h|⟨rfl,_⟩
      ·rcases Ff h with h|⟨rfl,_⟩
       . exact .inl h
       . exact .inr ⟨F,VM ..,hc,false,rfl⟩
      . exact .inr ⟨F,VM ..,hc,true,rfl⟩
    . exact .inr ⟨G,Wi _ hG,hc⟩
section
variable {A:List BF}
theorem Jz:∀ (s:List Nat) (all now:List BF),(∀ X∈all,X∈bfsF s all now)/\(∀ F∈now,okF (bfsF s all now) F)/\(DisF all->DisF (bfsF s all now))
 | [],all,now=>⟨(Cu now all).1,(Cu now all).2.1,(Cu now all).2.2.2⟩
 | v::s,all,now=>by
   obtain⟨h1,h2,h3⟩:=Jz s (now.foldl addF all) (now.foldl (nextF v) []);obtain⟨q1,q2,q3,q4⟩:=Cu now all;exact⟨fun X hX=>h1 X (q1 X hX),fun F hF=>(q2 F hF).mono h1,fun hd=>h3 (q4 hd)⟩
def LevF (n:Nat)(os:List Nat)(p:Nat)(now:List BF):Prop:=∀ Y∈now,DepF n Y/\PosF os p Y
theorem LevF.next {p v:Nat}(h:LevF n os p now)(hv:os.getD p 0=v):LevF n os (p+1) (now.foldl (nextF v) []):=fun Y hY=>by
 rcases(Et v now []).2.2 Y hY with h1|⟨F,hF,_,b,rfl⟩
 . cases h1
 ·obtain⟨hd,hp⟩:=h F hF;refine⟨Ca hd v b,fun j hj=>?_⟩;rcases VE j p with c|c
  . exact(hp j c).cof v b
  ·obtain rfl:j=p:=by omega
   rw[hv];exact fun c=>IT F v b c
theorem NI {p v:Nat}(hd:DepF n F)(hp:PosF os p F)(hpl:p<os.length)(hv:os.getD p 0=v)(hh:AS n F v=true):topR n F os=(v:Nat):=by
 rw[<- hv] at hh ⊢;exact Gk os p hpl hh fun j hj=>MQ hd (hp j hj)
theorem UW {p v:Nat}{N:List BF}(hd:DepF n F)(hp:PosF os p F)(hpl:p<os.length)(hv:os.getD p 0=v)(hc:Clo n os N F)(hF:okF N F)(b:Bool):okF N (cofF F v b):=by
 cases hh:AS n F v with
 | true =>
   have:=hc b
   rwa [NI hd hp hpl hv hh] at this
 | false=>rw[Gm hd hh b];exact hF
theorem NJ {N:List BF}(hN:∀ G∈N,Clo n os N G/\DepF n G):∀ (s:List Nat) (p:Nat) (all now:List BF),os.drop p=s->LevF n os p now->(∀ Y∈now,okF N Y)->(∀ X∈all,Bj N X)->∀ X∈bfsF s all now,Bj N X
 | [],p,all,now,_,hl,hn,ha,X,hX=>by
   rcases(Cu now all).2.2.1 X hX with h|⟨h,hc⟩
   . exact ha X h
   . exact(hn X h).resolve_left hc
 | v::s,p,all,now,hs,hl,hn,ha,X,hX=>by
   have hpl:p<os.length:=by
    rcases VE p os.length with c|c
    . exact c
    . rw[Wu c] at hs;cases hs
   rw[VT hpl] at hs;injection hs with e1 e2
   have hv:os.getD p 0=v:=by simp[List.getD,hpl,e1]
   refine NJ hN s (p+1) _ _ e2 (hl.next hv) (fun Y hY=>?_) (fun X hX=>?_) X hX
   ·rcases(Et v now []).2.2 Y hY with h1|⟨F,hF,hc,b,rfl⟩
    . cases h1
    . obtain⟨hd,hp⟩:=hl F hF;obtain⟨Z,hZ,e⟩:=Cf.1 ((hn F hF).resolve_left hc);exact UW hd hp hpl hv ((hN Z hZ).1.sim e (hN Z hZ).2) (hn F hF) b
   ·rcases(Cu now all).2.2.1 X hX with h|⟨h,hc⟩
    . exact ha X h
    . exact(hn X h).resolve_left hc
theorem NK (hlen:os.length=n)(hmem:∀ v,v<n->v∈os):∀ (s:List Nat) (p:Nat) (all now:List BF),os.drop p=s->LevF n os p now->(∀ Y∈now,¬ CF Y->Clo n os (bfsF s all now) Y)/\(∀ X∈bfsF s all now,X∈all\/Clo n os (bfsF s all now) X)
 | [],p,all,now,hs,hl=>by
   have hpl:os.length<=p:=by
    rcases VE p os.length with c|c
    . rw[VT c] at hs;cases hs
    . exact c
   have g1:∀ Y∈now,CF Y:=fun Y hY=>MU (hl Y hY).1 (fun j hj=>(hl Y hY).2 j (by omega)) hlen hmem
   refine⟨fun Y hY hc=>(hc (g1 Y hY)).elim,fun X hX=>?_⟩;rcases(Cu now all).2.2.1 X hX with h|⟨h,hc⟩
   . exact .inl h
   . exact(hc (g1 X h)).elim
 | v::s,p,all,now,hs,hl=>by
   have hpl:p<os.length:=by
    rcases VE p os.length with c|c
    . exact c
    . rw[Wu c] at hs;cases hs
   rw[VT hpl] at hs;injection hs with e1 e2
   have hv:os.getD p 0=v:=by simp[List.getD,hpl,e1]
   obtain⟨h1,h2⟩:=NK hlen hmem s (p+1) (now.foldl addF all) (now.foldl (nextF v) []) e2 (hl.next hv);have hf:=(Jz s (now.foldl addF all) (now.foldl (nextF v) [])).2.1;have key:∀ Y∈now,¬ CF Y->Clo n os (bfsF s (now.foldl addF all) (now.foldl (nextF v) [])) Y:=fun Y hY hc=>by
    obtain⟨hd,hp⟩:=hl Y hY;have g0:=(Et v now []).2.1 Y hY hc;cases hh:AS n Y v with
    | true =>
      intro b;rw[NI hd hp hpl hv hh];rcases g0 b with h|h
      . exact .inl h
      . obtain⟨Z,hZ,e⟩:=Cf.1 h;exact(hf Z hZ).sim e
    | false =>
      have hi:=Gm hd hh;have:=g0 false;rw[hi false] at this;obtain⟨Z,hZ,e⟩:=Cf.1 (this.resolve_left hc);exact(h1 Z hZ fun h=>hc (e.const h)).sim e ((hl.next hv) Z hZ).1
   refine⟨key,fun X hX=>?_⟩;rcases h2 X hX with h|h
   ·rcases(Cu now all).2.2.1 X h with h|⟨h,hc⟩
    . exact .inl h
    . exact .inr (key X h hc)
   . exact .inr h
theorem NL:∀ (s:List Nat) (p:Nat) (all now:List BF),os.drop p=s->LevF n os p now->(∀ X∈all,DepF n X)->∀ X∈bfsF s all now,DepF n X
 | [],p,all,now,_,hl,ha,X,hX=>by
   rcases(Cu now all).2.2.1 X hX with h|⟨h,_⟩
   . exact ha X h
   . exact(hl X h).1
 | v::s,p,all,now,hs,hl,ha,X,hX=>by
   have hpl:p<os.length:=by
    rcases VE p os.length with c|c
    . exact c
    . rw[Wu c] at hs;cases hs
   rw[VT hpl] at hs;injection hs with e1 e2
   have hv:os.getD p 0=v:=by simp[List.getD,hpl,e1]
   refine NL s (p+1) _ _ e2 (hl.next hv) (fun X hX=>?_) X hX;rcases(Cu now all).2.2.1 X hX with h|⟨h,_⟩
   . exact ha X h
   . exact(hl X h).1
theorem UX (hlen:os.length=n)(hlt:∀ v∈os,v<n)(hmem:∀ v,v<n->v∈os)(hd:∀ G∈Gs,DepF n G):(bfsF os [] Gs).length=(nodesF n os Gs).length:=by
 have g1:LevF n os 0 Gs:=fun Y hY=>⟨hd Y hY,fun j hj=>by omega⟩
 have g0:os.drop 0=os:=List.drop_zero;obtain⟨n1,_,n3,n4,n5⟩:=NG hlen hlt hmem Gs [] hd (fun G hG=>by cases hG) ⟨List.Pairwise.nil,(fun G hG=>by cases hG)⟩ (fun G hG=>by cases hG);obtain⟨_,b2,b3⟩:=Jz os [] Gs;have c2:=(NK hlen hmem os 0 [] Gs g0 g1).2;have g2:=NL os 0 [] Gs g0 g1 (fun X hX=>by cases hX);refine Nat.le_antisymm (Ju _ _ (b3 ⟨List.Pairwise.nil,(fun G hG=>by cases hG)⟩) fun X hX=>?_) (Ju _ _ n3 fun X hX=>?_)
 . exact NJ (N:=nodesF n os Gs) (fun G hG=>⟨n4 G hG,n5 G hG⟩) os 0 [] Gs g0 g1 n1 (fun X hX=>by cases hX) X hX
 . exact NH (A:=bfsF os [] Gs) (fun X hX=>⟨(c2 X hX).resolve_left (fun e=>by cases e),g2 X hX⟩) Gs [] (fun G hG=>by cases hG) b2 X hX
end
theorem Gw (hn:n<=16){a:Option Addr}{x:Value}(hl:Eo n w a Fs)(hx:TabA n w x F)(dF:DepF n F)(dl:∀ G∈Fs,DepF n G){r:Bool}(hr:r=true↔Bj Fs F) :
 Cl 153 #[.slice a Fs.length c,x] w (Bl (.bool r) w):=by
 have HN:Hq (∀ W,Bw w W->Cl 180 #[x] W fun e w'=>∃ z,e=.returned z/\TabA n w' z (notF F)/\Bw W w'):=Hd fun W hb=>(Uh hn (hx.below hb)).mono fun e w' ⟨z,h1,h2,h3⟩=>⟨z,h1,TabA.is h2,h3⟩
 have HX:=Hd hx;have HH:=Hd hl;have gc:=hl.len;have HR:=Hd hr;have HD:=Hd dF;have gi:=Hd dl;obtain⟨L,hL⟩:=Ex Fs.length;have HL:=Hd hL;rw[<- hL] at gc ⊢;clear hl hx hL hr dF dl
 go_enter func153,ntmps153
 go_wp2_with fail
 go_loopw [4,5] (fun s4 s5 wr=>∃ j:Nat,j<=L/\s5=Iv j/\Hq (Bw w wr)/\Hq (∀ q (h:q<Fs.length),q<j->Fs[q]≠F/\Fs[q]≠notF F)) (fun _ s5 _=>L-(intOf s5).toNat)
 case atStart=>exact⟨0,VC _,rfl,Hd (VI _ _),Hd fun q _ hq=>by omega⟩
 case round =>
  obtain⟨j,hj,rfl,HB,HQ⟩:=hrel
  by_cases ga:j<L
  ·have g6:j<Fs.length:=by rw[<- HL.o];exact ga
   have hb:=HB.o;obtain⟨b1,of1,v,rfl,c1,ht⟩:=(HH.o.below hb).cells j g6;have gd:(j:Int)<(L:Int):=by omega
   obtain⟨G,hG⟩:=Ex (Fs[j]);have dG:DepF n G:=by rw[hG];exact gi.o _ (VG _)
   rw[<- hG] at ht;obtain⟨p1,g3⟩:=MK (G=F);obtain⟨p2,hp2⟩:=MK (G=notF F);have HT:=Hd ht;have gf:Hq (∀ W,Bw wr W->Cl 181 #[v,x] W (Bl (.bool p1) W)):=Hd fun W hw=>MO (HT.o.below hw) (HX.o.below (HB.o.trans (hw.mono HB.o.size))) dG HD.o g3
   have g8:Hq (∀ W z,Bw wr W->TabA n W z (notF F)->Cl 181 #[v,z] W (Bl (.bool p2) W)):=Hd fun W z hw hz=>MO (HT.o.below hw) hz dG HD.o.not hp2
   have g4:Hq (p1=false->p2=false->∀ q (h:q<Fs.length),q<j+1->Fs[q]≠F/\Fs[q]≠notF F):=Hd fun e1 e2 q hq gj=>by
    rcases VE q j with h|h
    . exact HQ.o q hq h
    ·obtain rfl:q=j:=by omega
     rw[<- hG];exact⟨fun e=>(by rw[g3.2 e] at e1;cases e1),fun e=>(by rw[hp2.2 e] at e2;cases e2)⟩
   have g0:Hq ((p1=true\/p2=true)->r=true):=Hd fun h=>HR.o.2 ⟨j,g6,by rw[<- hG];exact h.imp g3.1 hp2.1⟩
   have g2:Hq (Bw wr wr.drew):=Hd (Am wr 1);have gh:=Hd (fun W (ge:Bw wr W)=>HN.o W (HB.o.trans (ge.mono HB.o.size)));clear g3 hp2 hG dG ht hb HQ;go_upto_region 4 with fail;refine AJ (fun W:Wd=>W.cell? (Aw b1 (of1+j))=some v/\Hq (Bw wr W)) false 15 [(0,false),(1,false),(2,false),(3,false),(4,false),(5,true),(6,false),(7,false),(8,false),(9,false),(10,false),(11,false),(12,true),(13,true),(14,false)] (by kernel_rfl) (by kernel_rfl) ⟨c1,g2⟩ ?_;simp only[planned,AH]
   iterate 5
    refine Aq rfl ?_;apply Exists.intro;refine⟨fun w' hw=>?_,?_⟩
    . obtain⟨h1,_⟩:=hw;go_simp;rfl
    simp only[Ab]
   refine JW (v:=.bool p1) rfl (by go_simp) ((gf.o wr.drew g2.o).mono fun e w' ⟨h1,h2⟩=>⟨h1,(h2.cell (p:=(Aw b1 (of1+j))) (Af (w:=wr.drew) c1)).trans c1,Hd (g2.o.trans (h2.mono g2.o.size))⟩) ?_;rintro w1 ⟨c2,g1⟩;simp only[Ab]
   iterate 1
    refine Aq rfl ?_;apply Exists.intro;refine⟨fun w' hw=>?_,?_⟩
    . obtain⟨h1,_⟩:=hw;go_simp;rfl
    simp only[Ab]
   cases p1 with
   | true =>
     iterate 5
      refine A9 false (by go_simp) ?_;refine Exists.intro undef (And.intro (fun g7=>absurd g7 (by simp)) ?_);simp only[Ab]
     refine ML (by go_simp) ⟨c2,g1⟩ ?_;simp only[Ab];refine ML (by go_simp) ⟨c2,g1⟩ ?_;simp only[Ab]
     iterate 1
      refine Aq rfl ?_;apply Exists.intro;refine⟨fun w' hw=>?_,?_⟩
      . obtain⟨h1,_⟩:=hw;go_simp;rfl
      simp only[Ab]
     refine Bs ?_;have HF:Hq (Ending.returned (.bool true)=.returned (.bool r)):=Hd (by rw[g0.o (.inl rfl)]);have g5:=Hd (HB.o.trans (g1.o.mono HB.o.size));clear g0 g4 g8 c1 c2 g2;go_wp2_with fail;go_ret;exact⟨HF.o,g5.o⟩
   | false =>
     iterate 5
      refine A9 true (by go_simp) ?_;apply Exists.intro;refine⟨fun g7 w' hw=>?_,?_⟩
      . obtain⟨h1,_⟩:=hw;go_simp;rfl
      simp only[Ab]
     refine Nz (R:=fun z w'=>TabA n w' z (notF F)) (by go_simp) (by go_simp) ((gh.o w1 g1.o).mono fun e w' ⟨z,h1,h2,h3⟩=>⟨z,h1,⟨(Cq h3 c2),Hd (g1.o.trans (h3.mono g1.o.size))⟩,h2⟩) ?_;rintro z w2 ⟨c3,HB2⟩ hz;simp only[Ab];refine Nz (R:=fun v _=>v=.bool p2) (by go_simp) (by go_simp) ((g8.o w2 z HB2.o hz).mono fun e w' ⟨h1,h2⟩=>⟨_,h1,⟨(Cq h2 c3),Hd (HB2.o.trans (h2.mono HB2.o.size))⟩,rfl⟩) ?_;rintro _ w3 ⟨-,g9⟩ rfl;simp only[Ab]
     iterate 1
      refine Aq rfl ?_;apply Exists.intro;refine⟨fun w' hw=>?_,?_⟩
      . obtain⟨h1,_⟩:=hw;go_simp;rfl
      simp only[Ab]
     refine Bs ?_;have g5:=Hd (HB.o.trans (g9.o.mono HB.o.size));clear c1 c2 c3 hz g1 HB2 g9 g2;cases p2 with
     | true =>
       have HF:Hq (Ending.returned (.bool true)=.returned (.bool r)):=Hd (by rw[g0.o (.inr rfl)]);clear g0 g4;go_wp2_with fail;go_ret;exact⟨HF.o,g5.o⟩
     | false =>
       have gg:=Hd (g4.o (by first|rfl|trivial) (by first|rfl|trivial));clear g0 g4;go_wp2_with fail;go_roundw
       case rel=>exact⟨j+1,by omega,by go_num,g5,gg⟩
       case measure=>simp[intOf];omega
  ·have HF:Hq (Ending.returned (.bool false)=.returned (.bool r)):=Hd (by
    cases r with
    | false=>rfl
    | true =>
      obtain⟨i,hi,h⟩:=HR.o.1 rfl;have:=HQ.o i hi (by rw[<- HL.o] at hi;omega);exact(h.elim this.1 this.2).elim)
   have gd:¬ (j:Int)<(L:Int):=by omega
   clear HQ;go_wp2_with fail;go_ret;exact⟨HF.o,HB.o⟩
theorem UY :Bj [fun _=>false] F↔CF F:=by
 rw[Cf];constructor
 . rintro⟨G,hG,h⟩;rw[VB.1 hG] at h;exact h.const ⟨false,rfl⟩
 ·rintro⟨c,rfl⟩;refine⟨_,VB.2 rfl,?_⟩;cases c with
  | false=>exact .inl rfl
  | true=>exact .inr rfl
theorem J0 (hn:n<=16){x:Value}(hx:TabA n w x F)(hd:DepF n F){r:Bool}(hr:r=true↔CF F) :
 Cl 152 #[x] w (Bl (.bool r) w):=by
 have HH:Hq (∀ g w1,OwnB w1 w.heap.size (.slice (some (Av g)) (2^n) (2^n)) (List.replicate (2^n) false)->Bw w w1->Cl 153 #[.slice (some (Av w1.heap.size)) 1 1,x] (w1.alloc (.cells #[.slice (some (Av g)) (2^n) (2^n)] 90)) (Bl (.bool r) w)):=Hd fun g w1 ho hb=>by
  have g3:=Ah w1 (.cells #[.slice (some (Av g)) (2^n) (2^n)] 90);have g1:=hb.trans (g3.mono hb.size)
  have g5:Eo n (w1.alloc (.cells #[.slice (some (Av g)) (2^n) (2^n)] 90)) (some (Av w1.heap.size)) [fun _=>false]:=⟨by simp,fun i hi=>by
   obtain rfl:i=0:=by have:i<1:=hi;omega
   refine⟨w1.heap.size,0,_,rfl,by rw[Vt _ _ 0 _ _ _ (Vv w1 _)];rfl,TabA.is ?_⟩;have:=(OwnC.boolsIs ho (by rw[WS];exact Vy (VX (by omega) hn) (by decide))).below g3;rw[QX] at this;exact this⟩
  have:=Gw hn (c:=1) g5 (hx.below g1) hd (fun G hG=>by rw[VB.1 hG];exact fun _ _ _=>rfl) (r:=r) (hr.trans UY.symm);exact Calls.mono this fun e w' hh=>⟨hh.1,g1.trans (hh.2.mono g1.size)⟩
 obtain⟨a,c,rfl,-⟩:=hx;obtain⟨L,hL⟩:=Ex (2^n);have g9:L<=1048576:=by rw[hL];exact Ee (by omega)
 rw[<- hL] at HH ⊢;clear hL hd hr
 go_enter func152,ntmps152
 go_wp2_with (at_make;refine FQ Du rfl _ _ rfl w.heap.size w _ L rfl rfl rfl (by omega) (Vu _) (VI _ _) ?_;intro g w1 g0 g4 hs1 g6 g8 g7;clear g7);have g2:OwnB w1 w.heap.size (.slice (some (Av g)) L L) (List.replicate L false):=by
  unfold OwnB;rw[show AL (List.replicate L false)=List.replicate L (.bool false) by simp[AL]];exact g0
 have HC:=Hd (HH.o g w1 g2 g4);clear g2 g0 g4 hs1 g6 g8 HH;refine HC.o.mono ?_;rintro e w2 ⟨rfl,hb⟩;have HB:=Hd hb;clear hb HC;go_wp2_with fail;go_ret;exact⟨rfl,HB.o⟩
structure TabT (n:Nat)(W:Wd)(x:Value)(F:BF):Prop where
 is:B6 W x (tabB n F)
 ty:∀ k,x.ownBlock=some k->k<W.heap.size/\∃ cur,W.heap[k]?=some (.cells cur 4 (0,0))
structure OwnT (n:Nat)(W:Wd)(B:Nat)(u:Value)(Fs:List BF):Prop where
 ex:∃ rs:List Value,rs.length=Fs.length/\OwnC 90 W B u rs/\∀ i (h:i<rs.length) (h2:i<Fs.length),TabT n W rs[i] Fs[i]
structure RowT (n:Nat)(W:Wd)(am:Option Addr)(Fs:List BF):Prop where
 len:Fs.length<=1000
 cells:∀ i (h:i<Fs.length),∃ b off v,am=some (Aw b off)/\W.cell? (Aw b (off+i))=some v/\TabT n W v Fs[i]
section
variable {B:Nat}{x u':Value}{all nx:List BF}{am:Option Addr}
theorem TabT.keep (h:TabT n W x F)(hk:∀ k,x.ownBlock=some k->W'.heap[k]?=W.heap[k]?)(hs:W.heap.size<=W'.heap.size):TabT n W' x F :=
 ⟨h.is.same hk,fun k e=>by
  obtain⟨h1,cur,h2⟩:=h.ty k e;exact⟨VJ h1 hs,cur,(hk k e).trans h2⟩⟩
theorem TabT.below (h:TabT n W x F)(hb:Bw W W'):TabT n W' x F:=h.keep (fun k e=>hb.block k (h.ty k e).1) hb.size
theorem TabT.grow (h:TabT n W x F)(hg:C4 v v' W W')(ht:∀ k,v.ownBlock=some k->∃ cur,W.heap[k]?=some (.cells cur 90 (0,0))):TabT n W' x F:=h.keep (fun k e=>hg.app.keep k (h.ty k e).1 fun e2=>by
 obtain⟨_,c1,q1⟩:=h.ty k e;obtain⟨c2,q2⟩:=ht k e2.symm;rw[q1] at q2;cases q2) hg.size
theorem TabT.tab (h:TabT n W x F):TabA n W x F:=TabA.is h.is
theorem OwnT.below (h:OwnT n W B u Fs)(hb:Bw W W'):OwnT n W' B u Fs:=by
 obtain⟨rs,h1,h2,h3⟩:=h.ex;exact⟨rs,h1,h2.same fun k hk=>hb.block k (h2.lt k hk).2,fun i q1 q2=>(h3 i q1 q2).below hb⟩
theorem OwnT.typed (h:OwnT n W B u Fs):∀ k,u.ownBlock=some k->∃ cur,W.heap[k]?=some (.cells cur 90 (0,0)):=by
 obtain⟨rs,h1,h2,h3⟩:=h.ex;exact h2.typed
theorem OwnT.lt (h:OwnT n W B u Fs):∀ k,u.ownBlock=some k->B<=k/\k<W.heap.size:=by
 obtain⟨rs,h1,h2,h3⟩:=h.ex;exact h2.lt
theorem OwnT.other (h:OwnT n W B u Fs)(hg:C4 v v' W W')(hv:OwnT n W B v nx)(hne:∀ k,u.ownBlock=some k->v.ownBlock≠some k):OwnT n W' B u Fs:=by
 obtain⟨rs,h1,h2,h3⟩:=h.ex;exact⟨rs,h1,h2.same fun k hk=>hg.app.keep k (h2.lt k hk).2 fun e=>hne k hk e.symm,fun i q1 q2=>(h3 i q1 q2).grow hg hv.typed⟩
theorem OwnT.app (h1:rs.length=Fs.length)(h3:∀ i (h:i<rs.length) (h2:i<Fs.length),TabT n W rs[i] Fs[i])(hv:OwnT n W B u Fs)(hx:TabT n W x F)(ho:OwnC 90 W' B u' (rs++[x]))(hg:C4 u u' W W'):OwnT n W' B u' (Fs++[F]) :=
 ⟨rs++[x],by simp[h1],ho,fun i q1 q2=>by
  rcases VE i rs.length with c|c
  . rw[Ww c,Ww (by omega)];exact(h3 i c (by omega)).grow hg hv.typed
  ·have e:i=rs.length:=by simp at q1;omega
   subst e;rw[Wp (by omega),Wp (by omega)];simpa using hx.grow hg hv.typed⟩
theorem OwnT.row (h:OwnT n W B u Fs)(hl:Fs.length<=1000):∃ a c,u=.slice a Fs.length c/\RowT n W a Fs:=by
 obtain⟨rs,h1,h2,h3⟩:=h.ex;rcases XY rs.length with h0|h0
 . obtain⟨a,c,e,_⟩:=h2.slice;exact⟨a,c,by rw[e,h1],⟨hl,fun i hi=>by omega⟩⟩
 . obtain⟨g,c,rfl,_,_⟩:=h2.shape h0;refine⟨_,c,by rw[h1],⟨hl,fun i hi=>⟨g,0,rs[i]'(by omega),rfl,?_,h3 i (by omega) hi⟩⟩⟩;have:=h2.cell i (by omega);rw[VW,this];simp
theorem RowT.tabs (h:RowT n W am Fs):Eo n W am Fs:=⟨h.len,fun i hi=>by
 obtain⟨b,off,v,e,h1,h2⟩:=h.cells i hi;exact⟨b,off,v,e,h1,h2.tab⟩⟩
theorem RowT.below (h:RowT n W am Fs)(hb:Bw W W'):RowT n W' am Fs:=⟨h.len,fun i hi=>by
 obtain⟨b,off,v,rfl,h1,h2⟩:=h.cells i hi;exact⟨b,off,v,rfl,(Cq hb h1),h2.below hb⟩⟩
theorem RowT.other (h:RowT n W am Fs)(hg:C4 v v' W W')(hv:OwnT n W B v nx)(hne:∀ x,am=some x->v.ownBlock≠some x.block):RowT n W' am Fs:=⟨h.len,fun i hi=>by
 obtain⟨b,off,x,rfl,h1,h2⟩:=h.cells i hi;exact⟨b,off,x,rfl,Co h1 (hg.app.keep b (Af h1) fun e=>hne _ rfl e.symm),h2.grow hg hv.typed⟩⟩
structure SzS (n B:Nat)(W:Wd)(u v:Value)(all nx:List BF)(am:Option Addr)(now:List BF):Prop where
 ra:OwnT n W B u all
 rx:OwnT n W B v nx
 rn:RowT n W am now
 s1:∀ k,u.ownBlock=some k->v.ownBlock≠some k
 s2:∀ x,am=some x->0<now.length->u.ownBlock≠some x.block/\v.ownBlock≠some x.block/\x.block<W.heap.size
theorem SzS.below (h:SzS n B W u v all nx am now)(hb:Bw W W'):SzS n B W' u v all nx am now:=⟨h.ra.below hb,h.rx.below hb,h.rn.below hb,h.s1,fun x hx hp=>by
 obtain⟨q1,q2,q3⟩:=h.s2 x hx hp;exact⟨q1,q2,VJ q3 hb.size⟩⟩
theorem RowT.other' (h:RowT n W am Fs)(hg:C4 v v' W W')(hv:OwnT n W B v nx)(hne:∀ x,am=some x->0<Fs.length->v.ownBlock≠some x.block):RowT n W' am Fs:=by
 rcases XY Fs.length with h0|h0
 . exact⟨h.len,fun i hi=>by omega⟩
 . exact h.other hg hv fun x hx=>hne x hx h0
theorem SzS.appAll (h:SzS n B W u v all nx am now)(h1:rs.length=all.length)(h3:∀ i (h:i<rs.length) (h2:i<all.length),TabT n W rs[i] all[i])(hx:TabT n W x F)(ho:OwnC 90 W' B u' (rs++[x]))(hg:C4 u u' W W'):SzS n B W' u' v (all++[F]) nx am now:=by
 have g0:∀ k,k<W.heap.size->u.ownBlock≠some k->u'.ownBlock≠some k:=fun k hk g1=>hg.app.ne g1 hk
 refine⟨OwnT.app h1 h3 h.ra hx ho hg,h.rx.other hg h.ra fun k hk e=>h.s1 k e hk,h.rn.other' hg h.ra fun x hx hp=>(h.s2 x hx hp).1,fun k hk e=>?_,fun y hy hp=>?_⟩
 . exact g0 k (h.rx.lt k e).2 (fun e2=>h.s1 k e2 e) hk
 . obtain⟨q1,q2,q3⟩:=h.s2 y hy hp;exact⟨g0 _ q3 q1,q2,VJ q3 hg.size⟩
theorem SzS.appNx (h:SzS n B W u v all nx am now)(h1:rs.length=nx.length)(h3:∀ i (h:i<rs.length) (h2:i<nx.length),TabT n W rs[i] nx[i])(hx:TabT n W x F)(ho:OwnC 90 W' B v' (rs++[x]))(hg:C4 v v' W W'):SzS n B W' u v' all (nx++[F]) am now:=by
 have g0:∀ k,k<W.heap.size->v.ownBlock≠some k->v'.ownBlock≠some k:=fun k hk g1=>hg.app.ne g1 hk
 refine⟨h.ra.other hg h.rx h.s1,OwnT.app h1 h3 h.rx hx ho hg,h.rn.other' hg h.rx fun x hx hp=>(h.s2 x hx hp).2.1,fun k hk e=>?_,fun y hy hp=>?_⟩
 . exact g0 k (h.ra.lt k hk).2 (h.s1 k hk) e
 . obtain⟨q1,q2,q3⟩:=h.s2 y hy hp;exact⟨q1,g0 _ q3 q2,VJ q3 hg.size⟩
theorem SzS.turn (h:SzS n B W u v all nx am now)(hl:nx.length<=1000):∃ a c,v=.slice a nx.length c/\SzS n B W u (.slice none 0 0) all [] a nx:=by
 obtain⟨a,c,e,hr⟩:=h.rx.row hl;refine⟨a,c,e,h.ra,⟨[],rfl,⟨rfl,.inl ⟨rfl,rfl⟩⟩,(fun i h=>by simp at h)⟩,hr,(fun k _ e=>by cases e),fun x hx _=>?_⟩;have hk:v.ownBlock=some x.block:=by rw[e,hx];rfl
 exact⟨fun e2=>h.s1 _ e2 hk,(fun e2=>by cases e2),(h.rx.lt _ hk).2⟩
end
noncomputable def bfN (os:List Nat)(Gs:List BF):Nat->List BF
 | 0=>Gs
 | p+1=>(bfN os Gs p).foldl (nextF (os.getD p 0)) []
noncomputable def bfA (os:List Nat)(Gs:List BF):Nat->List BF
 | 0=>[]
 | p+1=>(bfN os Gs p).foldl addF (bfA os Gs p)
theorem NM (os:List Nat)(Gs:List BF):∀ (d p:Nat),p+d=os.length->bfsF (os.drop p) (bfA os Gs p) (bfN os Gs p)=bfA os Gs (os.length+1)
 | 0,p,h=>by
   rw[Wu (by omega)];obtain rfl:p=os.length:=by omega
   rfl
 | d+1,p,h=>by
   have hp:p<os.length:=by omega
   rw[VT hp];have:=NM os Gs d (p+1) (by omega);rw[<- this]
   show bfsF _ ((bfN os Gs p).foldl addF (bfA os Gs p)) ((bfN os Gs p).foldl (nextF os[p]) [])=bfsF _ ((bfN os Gs p).foldl addF (bfA os Gs p)) ((bfN os Gs p).foldl (nextF (os.getD p 0)) [])
   rw[show os.getD p 0=os[p] by simp[List.getD,hp]]
theorem Fg (all:List BF)(F:BF):(addF all F).length<=all.length+1:=by
 unfold addF;split<;>simp
theorem UZ (v:Nat)(nx:List BF)(F:BF):(nextF v nx F).length<=nx.length+2:=by
 unfold nextF;split
 . omega
 . have h1:=Fg nx (cofF F v false);have h2:=Fg (addF nx (cofF F v false)) (cofF F v true);omega
theorem J1:∀ (now all:List BF),(now.foldl addF all).length<=all.length+now.length
 | [],_=>by simp
 | F::now,all=>by
   have h1:=Fg all F;have h2:=J1 now (addF all F);simp only[List.foldl_cons,VO];omega
theorem J2 (v:Nat):∀ (now nx:List BF),(now.foldl (nextF v) nx).length<=nx.length+2*now.length
 | [],_=>by simp
 | F::now,nx=>by
   have h1:=UZ v nx F;have h2:=J2 v now (nextF v nx F);simp only[List.foldl_cons,VO];omega
theorem J3 (os:List Nat)(Gs:List BF):∀ p,(bfN os Gs p).length<=Gs.length*2^p
 | 0=>by simp[bfN]
 | p+1=>by
   have h1:=J3 os Gs p;have h2:=J2 (os.getD p 0) (bfN os Gs p) []
   show ((bfN os Gs p).foldl (nextF (os.getD p 0)) []).length<=_
   rw[WZ];simp only[WN] at h2;have:Gs.length*(2^p*2)=2*(Gs.length*2^p):=by rw[<- Nat.mul_assoc,Nat.mul_comm]
   omega
theorem J4 (os:List Nat)(Gs:List BF):∀ p,(bfA os Gs p).length+Gs.length<=Gs.length*2^p
 | 0=>by simp[bfA]
 | p+1=>by
   have h0:=J3 os Gs p;have h1:=J4 os Gs p;have h2:=J1 (bfN os Gs p) (bfA os Gs p)
   show ((bfN os Gs p).foldl addF (bfA os Gs p)).length+_<=_
   rw[WZ];have:Gs.length*(2^p*2)=2*(Gs.length*2^p):=by rw[<- Nat.mul_assoc,Nat.mul_comm]
   omega
theorem J5 {n:Nat}{os:List Nat}{Gs:List BF}(hd:∀ G∈Gs,DepF n G):∀ p,∀ G∈bfN os Gs p,DepF n G
 | 0,G,h=>hd G h
 | p+1,G,h=>by
   rcases(Et (os.getD p 0) (bfN os Gs p) []).2.2 G h with h1|⟨F,hF,_,b,rfl⟩
   . cases h1
   . exact Ca (J5 hd p F hF) _ b
theorem NN {n:Nat}{os:List Nat}{Gs:List BF}(hd:∀ G∈Gs,DepF n G):∀ p,∀ G∈bfA os Gs p,DepF n G
 | 0,G,h=>by cases h
 | p+1,G,h=>by
   rcases(Cu (bfN os Gs p) (bfA os Gs p)).2.2.1 G h with h1|⟨h1,_⟩
   . exact NN hd p G h1
   . exact J5 hd p G h1
theorem Va {all:List BF}(hk:k<now.length):(now.take (k+1)).foldl addF all=addF ((now.take k).foldl addF all) now[k]:=by
 rw[Vz hk,Xt];rfl
theorem Vb {nx:List BF}{v:Nat}(hk:k<now.length):(now.take (k+1)).foldl (nextF v) nx=nextF v ((now.take k).foldl (nextF v) nx) now[k]:=by
 rw[Vz hk,Xt];rfl
theorem Eu (p:Prop):∃ b:Bool,(b=true↔p):=by
 by_cases h:p
 . exact⟨true,by simp[h]⟩
 . exact⟨false,by simp[h]⟩
theorem Vc (hn6:n<=6)(hol:os.length=n)(hlt0:∀ v∈os,v<n){ao fa:Option Addr}{co fc:Nat}(hz:Ar w ao (os.map Int.ofNat))(hfs:RowT n w fa Gs)(hd:∀ G∈Gs,DepF n G)(hL:Gs.length*2^n<=320)(hfb:∀ x,fa=some x->0<Gs.length->x.block<w.heap.size) :
 Cl 103 #[.slice fa Gs.length fc,.slice ao n co] w (Bl (Iv ((bfsF os [] Gs).length:Nat)) w):=by
 obtain⟨B,hB⟩:=Ex w.heap.size;have hC:bfsF os [] Gs=bfA os Gs (n+1):=by
  have:=NM os Gs n 0 (by omega);rw[List.drop_zero,hol] at this;exact this
 unfold Bl;rw[hC,<- hB];have hS:Hq (SzS n B w (.slice none 0 0) (.slice none 0 0) (bfA os Gs 0) [] fa (bfN os Gs 0)):=Hd ⟨⟨[],rfl,⟨rfl,.inl ⟨rfl,rfl⟩⟩,(fun i h=>by simp at h)⟩,⟨[],rfl,⟨rfl,.inl ⟨rfl,rfl⟩⟩,(fun i h=>by simp at h)⟩,hfs,(fun k e=>by cases e),fun x hx hp=>⟨(fun e=>by cases e),(fun e=>by cases e),hfb x hx hp⟩⟩;have kc:Hq (Below B w w):=Hd (VI _ _);have k9:Hq (∀ W,Below B w W->∀ p,p<n->∃ b off,ao=some (Aw b off)/\W.cell? (Aw b (off+p))=some (Iv (os.getD p 0:Nat))/\os.getD p 0<n):=Hd fun W hb p hp=>by
  rw[hB] at hb;obtain⟨b,off,e,hc⟩:=(hz.below hb).cells p (by simp;omega);refine⟨b,off,e,?_,?_⟩
  . rw[hc,Dc (by omega)]
  . rw[show os.getD p 0=os[p]'(by omega) by simp[List.getD,show p<os.length by omega]];exact hlt0 _ (VG _)
 have ka:Hq (∀ p,p<=n->(bfN os Gs p).length<=320/\(bfA os Gs p).length<=320):=Hd fun p hp=>by
  have h1:=J3 os Gs p;have h2:=J4 os Gs p;have h3:Gs.length*2^p<=Gs.length*2^n:=Nat.mul_le_mul_left _ (VX (by omega) hp);omega
 have kp:=Hd (fun p=>J5 hd (os:=os) p);have kq:=Hd (fun p=>NN hd (os:=os) p);have g8:=Hd hB;have h0:Gs.length=(bfN os Gs 0).length:=rfl;rw[h0];clear hC hz hfs hd hL hfb hlt0 hol h0
 go_enter func103,ntmps103
 go_wp2_with fail
 go_loopw [5,6,7,8,9,10,11] (fun s5 s6 s7 _ _ _ _ wr=>∃ (p:Nat) (u nw:Value),p<=n+1/\s5=u/\s6=nw/\s7=Iv (p:Nat)/\Hq (OwnT n wr B u (bfA os Gs p))/\Hq (p<=n->∃ am cm,nw=.slice am (bfN os Gs p).length cm/\SzS n B wr u (.slice none 0 0) (bfA os Gs p) [] am (bfN os Gs p))/\Hq (Below B w wr)) (fun _ _ s7 _ _ _ _ _=>n+1-(intOf s7).toNat)
 case atStart=>exact⟨0,_,_,VC _,rfl,rfl,rfl,Hd hS.o.ra,Hd fun _=>⟨_,_,rfl,hS.o⟩,kc⟩
 case round =>
  obtain⟨p,u,nw,hp,rfl,rfl,rfl,HU,hQ,HB⟩:=hrel;clear hS kc
  by_cases hu:p<=n
  ·have kh:(p:Int)<=(n:Int):=by omega
   obtain⟨am,cm,rfl,ho⟩:=hQ.o hu;obtain⟨N,hN⟩:=Ex (bfN os Gs p);obtain⟨A,hA⟩:=Ex (fun k=>(N.take k).foldl addF (bfA os Gs p):Nat->List BF)
   obtain⟨vv,hn⟩:∃ q,q=os.getD p 0:=⟨_,rfl⟩;obtain⟨X,hX⟩:=Ex (fun k=>if p=n then [] else (N.take k).foldl (nextF vv) []:Nat->List BF)
   obtain⟨h8,kf⟩:=ka.o p hu;have gP:=kp.o p;have k0:=kq.o p;rw[<- hN] at ho h8 gP ⊢;obtain⟨M,hM⟩:=Ex N.length;have gB:Hq (M=N.length):=Hd hM
   have k6:Hq (SzS n B wr u5 (.slice none 0 0) (A 0) (X 0) am N):=Hd (by
    have e1:A 0=bfA os Gs p:=by rw[hA];rfl
    have e2:X 0=[]:=by rw[hX];show (if p=n then [] else _)=[];split<;>rfl
    rw[e1,e2];exact ho)
   have kd:Hq (A M=bfA os Gs (p+1)):=Hd (by rw[hA,hM,hN];show ((bfN os Gs p).take (bfN os Gs p).length).foldl addF _=_;rw[Wb];rfl);have kl:Hq (p<n->X M=bfN os Gs (p+1)):=Hd fun h=>by
    rw[hX,hM,hN,hn]
    show (if p=n then [] else ((bfN os Gs p).take (bfN os Gs p).length).foldl _ _)=_
    rw[Vs (by omega),Wb];rfl
   have kr:Hq (∀ k (h:k<N.length),A (k+1)=addF (A k) N[k]):=Hd fun k h=>by rw[hA];exact Va h
   have hE:Hq (∀ k (h:k<N.length),p<n->X (k+1)=nextF vv (X k) N[k]):=Hd fun k h gg=>by
    rw[hX]
    show (if p=n then [] else _)=nextF vv (if p=n then [] else _) _
    rw[Vs (by omega),Vs (by omega)];exact Vb h
   have gG:Hq (False\/p=n->∀ k,X k=[]):=Hd fun h k=>by rw[hX];exact Vw (h.resolve_left fun e=>e)
   have hW:Hq (∀ k,k<=N.length->(A k).length<=640/\(X k).length<=640):=Hd fun k hk=>by
    have h1:=J1 (N.take k) (bfA os Gs p);have h2:=J2 vv (N.take k) [];rw[Wz,Nat.min_eq_left hk] at h1 h2;rw[hA,hX];refine⟨by show ((N.take k).foldl addF _).length<=_;omega,?_⟩
    show (if p=n then [] else _).length<=_
    split
    . simp
    . simp only[WN] at h2;omega
   have kt:Hq (∀ k,∀ G∈A k,DepF n G):=Hd fun k G hG=>by
    rw[hA] at hG;rcases(Cu (N.take k) (bfA os Gs p)).2.2.1 G hG with h1|⟨h1,_⟩
    . exact k0 G h1
    . exact gP G (Xy h1)
   have he:Hq (∀ k,∀ G∈X k,DepF n G):=Hd fun k G hG=>by
    rw[hX] at hG
    by_cases e:p=n
    . have gS:G∈(if p=n then [] else (N.take k).foldl (nextF vv) []):=hG;rw[Vw e] at gS;cases gS
    ·have gS:G∈(if p=n then [] else (N.take k).foldl (nextF vv) []):=hG;rw[Vs e] at gS;rcases(Et vv (N.take k) []).2.2 G gS with h1|⟨F,hF,_,b,rfl⟩
     . cases h1
     . exact Ca (gP F (Xy hF)) _ b
   have kn:=Hd gP;have k4:Hq (vv=os.getD p 0):=Hd hn;have kv:M<=320:=by rw[hM];exact h8
   rw[<- hM];clear hn hN hA hX hM ho h8 kf gP k0 HU hQ;go_wp2_with fail
   go_loopw [5,8,9,10,11] (fun s5 s8 s9 _ _ wr=>∃ (k:Nat) (u v:Value),k<=M/\s5=u/\s8=v/\s9=Iv (k:Nat)/\Hq (SzS n B wr u v (A k) (X k) am N)/\Hq (Below B w wr)) (fun _ _ s9 _ _ _=>M-(intOf s9).toNat)
   case atStart=>exact⟨0,_,_,VC _,rfl,rfl,rfl,k6,HB⟩
   case round =>
    obtain⟨k,u,v,hk,rfl,rfl,rfl,HS,hg⟩:=hrel;clear k6 HB
    by_cases gh:k<M
    ·have ku:(k:Int)<(M:Int):=by omega
     have hv:k<N.length:=by rw[<- gB.o];exact gh
     obtain⟨bq,ofq,xq,rfl,cq,gJ⟩:=HS.o.rn.cells k hv;obtain⟨ta,tc,rfl,_⟩:=gJ.tab;obtain⟨F,hF⟩:=Ex (N[k]);rw[<- hF] at gJ;have h4:Hq (F=N[k]):=Hd hF;have gI:Hq (DepF n F):=Hd (by rw[hF];exact kn.o _ (VG _));have hD:=kr.o k hv;rw[<- hF] at hD;have hY:=Hd hD;obtain⟨r0,ht⟩:=Eu (CF F);have gt:=Hd (J0 (n:=n) (by omega) gJ.tab gI.o ht);have k5:=Hd gJ;have k8:=Hd ht;clear hF hD ht gJ;go_wp2_with fail;refine gt.o.mono ?_;rintro y w1 ⟨rfl,gR⟩;have gU:=Hd (HS.o.below gR);have hf:=Hd (k5.o.below gR);have hi:=Hd (hg.o.trans (gR.mono (by have:=hg.o.size;rw[g8.o];exact this)));have cq1:=Cq gR cq;clear gR gt HS k5 hg cq;cases r0 with
     | true =>
       have ge:Hq (SzS n B w1 u5 u8 (A (k+1)) (X (k+1)) (some (Aw bq ofq)) N):=Hd (by
        have hc:=k8.o.1 (by first|rfl|trivial);have e1:A (k+1)=A k:=by
         rw[hY.o];unfold addF;rw[Vw (.inl hc)]
        have e2:X (k+1)=X k:=by
         by_cases e:p=n
         . rw[gG.o (.inr e),gG.o (.inr e)]
         . rw[hE.o k hv (by omega),<- h4.o];unfold nextF;rw[Vw hc]
        rw[e1,e2];exact gU.o)
       clear gU hf;go_wp2_with fail;go_roundw
       case rel=>exact⟨k+1,_,_,gh,rfl,rfl,by go_num,ge,hi⟩
       case measure=>simp[intOf];omega
     | false =>
       have hR:Hq (¬ CF F):=Hd fun e=>by have:=k8.o.2 e;cases this
       obtain⟨r1,hr⟩:=Eu (Bj (A k) F);have kk:=(hW.o k (by omega)).1
       have gv:Hq (Cl 153 #[u5,.slice ta (2^n) tc] w1 (Bl (.bool r1) w1)):=Hd (by
        obtain⟨xa,xc,e,gM⟩:=gU.o.ra.row (by omega);rw[e];exact Gw (by omega) gM.tabs hf.o.tab gI.o (kt.o k) hr)
       have k7:=Hd hr;clear hr;go_wp2_with fail;refine gv.o.mono ?_;rintro y w2 ⟨rfl,gQ⟩;have gH:=Hd (gU.o.below gQ);have hP:=Hd (hf.o.below gQ);have gC:=Hd (hi.o.trans (gQ.mono (by have:=hi.o.size;rw[g8.o];exact this)));have cq2:=Cq gQ cq1;clear gQ gv gU hf hi cq1;obtain⟨am2,k3⟩:∃ q:Option Addr,q=some (Aw bq ofq):=⟨_,rfl⟩;cases r1 with
       | true =>
         have gn:Hq (SzS n B w2 u5 u8 (A (k+1)) (X k) (some (Aw bq ofq)) N):=Hd (by
          rw[hY.o];unfold addF;rw[Vw (.inr (k7.o.1 (by first|rfl|trivial)))];exact gH.o)
         have gi:=Hd gC.o;clear gH hP cq2 k3 gC
         by_cases gg:p=n
         ·have h7:((p:Int) == (n:Int))=true:=by rw[gg];simp
          have ge:Hq (SzS n B w2 u5 u8 (A (k+1)) (X (k+1)) (some (Aw bq ofq)) N):=Hd (by
           rw[gG.o (.inr gg) (k+1)];have:=gn.o
           rwa [gG.o (.inr gg) k] at this)
          clear gn gg;go_wp2_with fail;go_roundw
          case rel=>exact⟨k+1,_,_,gh,rfl,rfl,by go_num,ge,gi⟩
          case measure=>simp[intOf];omega
         ·have h7:((p:Int) == (n:Int))=false:=by rw[WT];omega
          have gN:p<n:=by omega
          obtain⟨Xj,g6⟩:=Ex (fun j=>if j=0 then X k else if j=1 then addF (X k) (cofF F vv false) else addF (addF (X k) (cofF F vv false)) (cofF F vv true):Nat->List BF)
          have hO:Hq (Xj 0=X k):=Hd (by rw[g6];rfl)
          have hK:Hq (Xj 2=X (k+1)):=Hd (by
           rw[hE.o k (by rw[<- gB.o];exact gh) gN,<- h4.o,g6]
           show addF (addF (X k) (cofF F vv false)) (cofF F vv true)=_
           unfold nextF;rw[Vs hR.o])
          have hJ:Hq (∀ j,j<2->Xj (j+1)=addF (Xj j) (cofF F vv ((j:Int) == 1))):=Hd fun j hj=>by
           rw[g6];rcases(show j=0\/j=1 by omega) with e|e<;>subst e<;>rfl
          have hI:Hq (∀ j,j<2->(Xj j).length<=900):=Hd fun j hj=>by
           have h1:=(hW.o k (by rw[<- gB.o];exact hk)).2;have h2:=Fg (X k) (cofF F vv false);rw[g6];rcases(show j=0\/j=1 by omega) with e|e<;>subst e
           . show (X k).length<=900;omega
           . show (addF (X k) (cofF F vv false)).length<=900;omega
          have h9:Hq (∀ j,j<2->∀ G∈Xj j,DepF n G):=Hd fun j hj G hG=>by
           rw[g6] at hG;rcases(show j=0\/j=1 by omega) with e|e<;>subst e
           . exact he.o k G hG
           ·rcases Ff hG with h|⟨rfl,_⟩
            . exact he.o k G h
            . exact Ca gI.o _ _
          clear g6;go_wp2_with fail
          go_loopw [8,10,11] (fun s8 s10 _ wr=>∃ (j:Nat) (v3:Value),j<=2/\s8=v3/\s10=Iv (j:Nat)/\Hq (SzS n B wr u5 v3 (A (k+1)) (Xj j) (some (Aw bq ofq)) N)/\Hq (Below B w wr)/\Hq (Bw w2 wr\/True)) (fun _ s10 _ _=>2-(intOf s10).toNat)
          case atStart=>exact⟨0,_,VC _,rfl,rfl,Hd (by rw[hO.o];exact gn.o),gi,Hd (.inr trivial)⟩
          case round =>
           obtain⟨j,v3,hj,rfl,rfl,gc,gp,-⟩:=hrel;clear gn gi
           by_cases g5:j<2
           ·have kj:(j:Int)<2:=by omega
            obtain⟨b1,of1,x1,e0,cc1,gL⟩:=gc.o.rn.cells k (by rw[<- gB.o];exact gh);cases e0;obtain⟨ta2,tc2,rfl,gw⟩:=gL.tab;rw[<- h4.o] at gw;obtain⟨b2,of2,rfl,cc2,gK⟩:=k9.o wr gp.o p gN;rw[<- k4.o] at cc2 gK;have h6:=Hd (fun W (hb:Bw wr W)=>MP n F vv ((j:Int) == 1) (by omega) gK ta2 tc2 W (gw.below hb));have gf:Hq (Bw wr wr.drew):=Hd (Am wr 1);have ke:(p:Int)<(n:Int):=by omega
            have kg:(k:Int)<(M:Int):=by omega
            clear gL gw;go_upto_region 17 with fail;refine AJ (fun W':Wd=>W'.cell? (Aw bq (ofq+k))=some (.slice ta2 (2^n) tc2)/\W'.cell? (Aw b2 (of2+p))=some (Iv (vv:Nat))/\Hq (Bw wr W')) false 12 [(0,false),(1,false),(2,false),(3,false),(4,false),(5,false),(6,false),(7,false),(8,false),(9,false),(10,true),(11,false)] (by kernel_rfl) (by kernel_rfl) ⟨cc1,cc2,gf⟩ ?_;simp only[planned,AH]
            iterate 10
             refine Aq rfl ?_;apply Exists.intro;refine⟨fun w' hw=>?_,?_⟩
             . obtain⟨h1,h2,_⟩:=hw;go_simp;rfl
             simp only[Ab]
            refine BH (R:=fun x w'=>∃ g,x=.slice (some (Av g)) (2^n) (2^n)/\g<w'.heap.size/\wr.heap.size<=g/\OwnB w' wr.heap.size (.slice (some (Av g)) (2^n) (2^n)) (tabB n (cofF F vv ((j:Int) == 1)))) rfl (by go_simp) ((h6.o wr.drew gf.o).mono fun e w' ⟨g,h1,h2,h3⟩=>⟨_,h1,⟨(h3.cell (p:=(Aw bq (ofq+k))) (Af (w:=wr.drew) cc1)).trans cc1,(h3.cell (p:=(Aw b2 (of2+p))) (Af (w:=wr.drew) cc2)).trans cc2,Hd (gf.o.trans (h3.mono gf.o.size))⟩,g,rfl,(h2.lt g rfl).2,(h2.lt g rfl).1,h2⟩) ?_;rintro _ w4 ⟨-,-,gF⟩ ⟨g,rfl,gO,hy,gj⟩;simp only[Ab]
            iterate 1
             refine Aq rfl ?_;apply Exists.intro;refine⟨fun w' hw=>?_,?_⟩
             . obtain⟨h1,h2,_⟩:=hw;go_simp;rfl
             simp only[Ab]
            refine Bs ?_;obtain⟨H,hH⟩:=Ex (cofF F vv ((j:Int) == 1));rw[<- hH] at gj;have h5:Hq (DepF n H):=Hd (by rw[hH];exact Ca gI.o _ _);have HJ:=Hd (hJ.o j g5);rw[<- hH] at HJ;have gz:Hq (TabT n w4 (.slice (some (Av g)) (2^n) (2^n)) H):=Hd ⟨OwnC.boolsIs gj (by rw[CA];exact Vy (VX (by omega) hn6) (by decide)),fun q e=>by cases e;exact⟨gO,gj.typed g rfl⟩⟩;have gT:=Hd (gc.o.below gF.o);have gE:=Hd (gp.o.trans (gF.o.mono (by have:=gp.o.size;rw[g8.o];exact this)));obtain⟨r2,gy⟩:=Eu (CF H);have gt:=Hd (J0 (n:=n) (by omega) gz.o.tab h5.o gy);have gX:=Hd gy;clear gj gO hy hH h6 cc1 cc2 gy gc gf;go_wp2_with fail;refine gt.o.mono ?_;rintro y w5 ⟨rfl,gl⟩;have ga:=Hd (gT.o.below gl);have gm:=Hd (gz.o.below gl);have go:=Hd (gE.o.trans (gl.mono (by have:=gE.o.size;rw[g8.o];exact this)));clear gl gt gT gz gE gF;cases r2 with
            | true =>
              have gd:Hq (SzS n B w5 u5 u8 (A (k+1)) (Xj (j+1)) (some (Aw bq ofq)) N):=Hd (by
               rw[HJ.o];unfold addF;rw[Vw (.inl (gX.o.1 (by first|rfl|trivial)))];exact ga.o)
              clear ga gm;go_wp2_with fail;go_roundw
              case rel=>exact⟨j+1,_,g5,rfl,by go_num,gd,go,Hd (.inr trivial)⟩
              case measure=>simp[intOf];omega
            | false =>
              have ha:Hq (¬ CF H):=Hd fun e=>by have:=gX.o.2 e;cases this
              obtain⟨r3,gx⟩:=Eu (Bj (Xj j) H);have hm:=hI.o j g5
              have gv:Hq (Cl 153 #[u8,.slice (some (Av g)) (2^n) (2^n)] w5 (Bl (.bool r3) w5)):=Hd (by
               obtain⟨xa,xc,e,gM⟩:=ga.o.rx.row (by omega);rw[e];exact Gw (by omega) gM.tabs gm.o.tab h5.o (h9.o j g5) gx)
              have gV:=Hd gx;clear gx;go_wp2_with fail;refine gv.o.mono ?_;rintro y w6 ⟨rfl,gk⟩;have g7:=Hd (ga.o.below gk);have gA:=Hd (gm.o.below gk);have gD:=Hd (go.o.trans (gk.mono (by have:=go.o.size;rw[g8.o];exact this)));clear gk gv ga gm go;cases r3 with
              | true =>
                have gd:Hq (SzS n B w6 u5 u8 (A (k+1)) (Xj (j+1)) (some (Aw bq ofq)) N):=Hd (by
                 rw[HJ.o];unfold addF;rw[Vw (.inr (gV.o.1 (by first|rfl|trivial)))];exact g7.o)
                clear g7 gA;go_wp2_with fail;go_roundw
                case rel=>exact⟨j+1,_,g5,rfl,by go_num,gd,gD,Hd (.inr trivial)⟩
                case measure=>simp[intOf];omega
              | false =>
                have hT:Hq (Xj (j+1)=Xj j++[H]):=Hd (by
                 rw[HJ.o];unfold addF;rw[Vs];rintro(e|e)
                 . exact ha.o e
                 . have:=gV.o.2 e;cases this)
                obtain⟨rs,q1,q2,q3⟩:=g7.o.rx.ex;have gu:=Hd q2;have hZ:rs.length<=900:=by rw[q1];exact hm
                have gY:=Hd q3;have gZ:=Hd q1;have gr:B<=w6.heap.size:=by have:=gD.o.size;rw[g8.o];exact this
                clear q2 q3 q1;go_wp2_with (at_builtin;refine Cz FP _ rfl _ _ rfl B _ rs (.slice (some (Av g)) (2^n) (2^n)) rfl rfl rfl rfl rfl (by exact gu.o) (by omega) gr ?_;intro u3 w7 g0 g1 g2 g3 g4 gq);have g9:C4 u8 u3 w6 w7:=⟨g1,g2,g3,g4,gq⟩
                have gd:Hq (SzS n B w7 u5 u3 (A (k+1)) (Xj (j+1)) (some (Aw bq ofq)) N):=Hd (by
                 rw[hT.o];exact g7.o.appNx gZ.o gY.o gA.o g0 g9)
                have hU:=Hd (gD.o.trans (g9.below gr fun q hq=>(g7.o.rx.lt q hq).1));clear g0 g1 g2 g3 g4 gq g9 g7 gA gu;go_roundw
                case rel=>exact⟨j+1,_,g5,rfl,by go_num,gd,hU,Hd (.inr trivial)⟩
                case measure=>simp[intOf];omega
           ·obtain rfl:j=2:=by omega
            have ge:Hq (SzS n B wr u5 u8 (A (k+1)) (X (k+1)) (some (Aw bq ofq)) N):=Hd (by rw[<- hK.o];exact gc.o);clear gc;go_wp2_with fail;go_roundw
            case rel=>exact⟨k+1,_,_,gh,rfl,rfl,by go_num,ge,gp⟩
            case measure=>simp[intOf];omega
       | false =>
         have ko:Hq (A (k+1)=A k++[F]):=Hd (by
          rw[hY.o];unfold addF;rw[Vs];rintro(e|e)
          . exact hR.o e
          . have:=k7.o.2 e;cases this)
         obtain⟨rs,q1,q2,q3⟩:=gH.o.ra.ex;have gu:=Hd q2;have hZ:rs.length<=640:=by rw[q1];exact kk
         have gY:=Hd q3;have gZ:=Hd q1;have gr:B<=w2.heap.size:=by have:=gC.o.size;rw[g8.o];exact this
         clear q2 q3 q1 k3;go_upto_region 13 with (at_builtin;refine Cz FP _ rfl _ _ rfl B _ rs (.slice ta (2^n) tc) rfl rfl rfl rfl rfl (by exact gu.o) (by omega) gr ?_;intro u3 w3 g0 g1 g2 g3 g4 gq)
         have g9:C4 u5 u3 w2 w3:=⟨g1,g2,g3,g4,gq⟩
         have gn:Hq (SzS n B w3 u3 u8 (A (k+1)) (X k) (some (Aw bq ofq)) N):=Hd (by
          rw[ko.o];exact gH.o.appAll gZ.o gY.o hP.o g0 g9)
         have gi:=Hd (gC.o.trans (g9.below gr fun q hq=>(gH.o.ra.lt q hq).1));clear g0 g1 g2 g3 g4 gq g9 gH hP gu cq2 gC
         by_cases gg:p=n
         ·have h7:((p:Int) == (n:Int))=true:=by rw[gg];simp
          have ge:Hq (SzS n B w3 u3 u8 (A (k+1)) (X (k+1)) (some (Aw bq ofq)) N):=Hd (by
           rw[gG.o (.inr gg) (k+1)];have:=gn.o
           rwa [gG.o (.inr gg) k] at this)
          clear gn gg;go_wp2_with fail;go_roundw
          case rel=>exact⟨k+1,_,_,gh,rfl,rfl,by go_num,ge,gi⟩
          case measure=>simp[intOf];omega
         ·have h7:((p:Int) == (n:Int))=false:=by rw[WT];omega
          have gN:p<n:=by omega
          obtain⟨Xj,g6⟩:=Ex (fun j=>if j=0 then X k else if j=1 then addF (X k) (cofF F vv false) else addF (addF (X k) (cofF F vv false)) (cofF F vv true):Nat->List BF)
          have hO:Hq (Xj 0=X k):=Hd (by rw[g6];rfl)
          have hK:Hq (Xj 2=X (k+1)):=Hd (by
           rw[hE.o k (by rw[<- gB.o];exact gh) gN,<- h4.o,g6]
           show addF (addF (X k) (cofF F vv false)) (cofF F vv true)=_
           unfold nextF;rw[Vs hR.o])
          have hJ:Hq (∀ j,j<2->Xj (j+1)=addF (Xj j) (cofF F vv ((j:Int) == 1))):=Hd fun j hj=>by
           rw[g6];rcases(show j=0\/j=1 by omega) with e|e<;>subst e<;>rfl
          have hI:Hq (∀ j,j<2->(Xj j).length<=900):=Hd fun j hj=>by
           have h1:=(hW.o k (by rw[<- gB.o];exact hk)).2;have h2:=Fg (X k) (cofF F vv false);rw[g6];rcases(show j=0\/j=1 by omega) with e|e<;>subst e
           . show (X k).length<=900;omega
           . show (addF (X k) (cofF F vv false)).length<=900;omega
          have h9:Hq (∀ j,j<2->∀ G∈Xj j,DepF n G):=Hd fun j hj G hG=>by
           rw[g6] at hG;rcases(show j=0\/j=1 by omega) with e|e<;>subst e
           . exact he.o k G hG
           ·rcases Ff hG with h|⟨rfl,_⟩
            . exact he.o k G h
            . exact Ca gI.o _ _
          clear g6;go_wp2_with fail
          go_loopw [8,10,11] (fun s8 s10 _ wr=>∃ (j:Nat) (v3:Value),j<=2/\s8=v3/\s10=Iv (j:Nat)/\Hq (SzS n B wr u3 v3 (A (k+1)) (Xj j) (some (Aw bq ofq)) N)/\Hq (Below B w wr)/\Hq (Bw w3 wr\/True)) (fun _ s10 _ _=>2-(intOf s10).toNat)
          case atStart=>exact⟨0,_,VC _,rfl,rfl,Hd (by rw[hO.o];exact gn.o),gi,Hd (.inr trivial)⟩
          case round =>
           obtain⟨j,v3,hj,rfl,rfl,gc,gp,-⟩:=hrel;clear gn gi
           by_cases g5:j<2
           ·have kj:(j:Int)<2:=by omega
            obtain⟨b1,of1,x1,e0,cc1,gL⟩:=gc.o.rn.cells k (by rw[<- gB.o];exact gh);cases e0;obtain⟨ta2,tc2,rfl,gw⟩:=gL.tab;rw[<- h4.o] at gw;obtain⟨b2,of2,rfl,cc2,gK⟩:=k9.o wr gp.o p gN;rw[<- k4.o] at cc2 gK;have h6:=Hd (fun W (hb:Bw wr W)=>MP n F vv ((j:Int) == 1) (by omega) gK ta2 tc2 W (gw.below hb));have gf:Hq (Bw wr wr.drew):=Hd (Am wr 1);have ke:(p:Int)<(n:Int):=by omega
            have kg:(k:Int)<(M:Int):=by omega
            clear gL gw;go_upto_region 17 with fail;refine AJ (fun W':Wd=>W'.cell? (Aw bq (ofq+k))=some (.slice ta2 (2^n) tc2)/\W'.cell? (Aw b2 (of2+p))=some (Iv (vv:Nat))/\Hq (Bw wr W')) false 12 [(0,false),(1,false),(2,false),(3,false),(4,false),(5,false),(6,false),(7,false),(8,false),(9,false),(10,true),(11,false)] (by kernel_rfl) (by kernel_rfl) ⟨cc1,cc2,gf⟩ ?_;simp only[planned,AH]
            iterate 10
             refine Aq rfl ?_;apply Exists.intro;refine⟨fun w' hw=>?_,?_⟩
             . obtain⟨h1,h2,_⟩:=hw;go_simp;rfl
             simp only[Ab]
            refine BH (R:=fun x w'=>∃ g,x=.slice (some (Av g)) (2^n) (2^n)/\g<w'.heap.size/\wr.heap.size<=g/\OwnB w' wr.heap.size (.slice (some (Av g)) (2^n) (2^n)) (tabB n (cofF F vv ((j:Int) == 1)))) rfl (by go_simp) ((h6.o wr.drew gf.o).mono fun e w' ⟨g,h1,h2,h3⟩=>⟨_,h1,⟨(h3.cell (p:=(Aw bq (ofq+k))) (Af (w:=wr.drew) cc1)).trans cc1,(h3.cell (p:=(Aw b2 (of2+p))) (Af (w:=wr.drew) cc2)).trans cc2,Hd (gf.o.trans (h3.mono gf.o.size))⟩,g,rfl,(h2.lt g rfl).2,(h2.lt g rfl).1,h2⟩) ?_;rintro _ w4 ⟨-,-,gF⟩ ⟨g,rfl,gO,hy,gj⟩;simp only[Ab]
            iterate 1
             refine Aq rfl ?_;apply Exists.intro;refine⟨fun w' hw=>?_,?_⟩
             . obtain⟨h1,h2,_⟩:=hw;go_simp;rfl
             simp only[Ab]
            refine Bs ?_;obtain⟨H,hH⟩:=Ex (cofF F vv ((j:Int) == 1));rw[<- hH] at gj;have h5:Hq (DepF n H):=Hd (by rw[hH];exact Ca gI.o _ _);have HJ:=Hd (hJ.o j g5);rw[<- hH] at HJ;have gz:Hq (TabT n w4 (.slice (some (Av g)) (2^n) (2^n)) H):=Hd ⟨OwnC.boolsIs gj (by rw[CA];exact Vy (VX (by omega) hn6) (by decide)),fun q e=>by cases e;exact⟨gO,gj.typed g rfl⟩⟩;have gT:=Hd (gc.o.below gF.o);have gE:=Hd (gp.o.trans (gF.o.mono (by have:=gp.o.size;rw[g8.o];exact this)));obtain⟨r2,gy⟩:=Eu (CF H);have gt:=Hd (J0 (n:=n) (by omega) gz.o.tab h5.o gy);have gX:=Hd gy;clear gj gO hy hH h6 cc1 cc2 gy gc gf;go_wp2_with fail;refine gt.o.mono ?_;rintro y w5 ⟨rfl,gl⟩;have ga:=Hd (gT.o.below gl);have gm:=Hd (gz.o.below gl);have go:=Hd (gE.o.trans (gl.mono (by have:=gE.o.size;rw[g8.o];exact this)));clear gl gt gT gz gE gF;cases r2 with
            | true =>
              have gd:Hq (SzS n B w5 u3 u8 (A (k+1)) (Xj (j+1)) (some (Aw bq ofq)) N):=Hd (by
               rw[HJ.o];unfold addF;rw[Vw (.inl (gX.o.1 (by first|rfl|trivial)))];exact ga.o)
              clear ga gm;go_wp2_with fail;go_roundw
              case rel=>exact⟨j+1,_,g5,rfl,by go_num,gd,go,Hd (.inr trivial)⟩
              case measure=>simp[intOf];omega
            | false =>
              have ha:Hq (¬ CF H):=Hd fun e=>by have:=gX.o.2 e;cases this
              obtain⟨r3,gx⟩:=Eu (Bj (Xj j) H);have hm:=hI.o j g5
              have gv:Hq (Cl 153 #[u8,.slice (some (Av g)) (2^n) (2^n)] w5 (Bl (.bool r3) w5)):=Hd (by
               obtain⟨xa,xc,e,gM⟩:=ga.o.rx.row (by omega);rw[e];exact Gw (by omega) gM.tabs gm.o.tab h5.o (h9.o j g5) gx)
              have gV:=Hd gx;clear gx;go_wp2_with fail;refine gv.o.mono ?_;rintro y w6 ⟨rfl,gk⟩;have g7:=Hd (ga.o.below gk);have gA:=Hd (gm.o.below gk);have gD:=Hd (go.o.trans (gk.mono (by have:=go.o.size;rw[g8.o];exact this)));clear gk gv ga gm go;cases r3 with
              | true =>
                have gd:Hq (SzS n B w6 u3 u8 (A (k+1)) (Xj (j+1)) (some (Aw bq ofq)) N):=Hd (by
                 rw[HJ.o];unfold addF;rw[Vw (.inr (gV.o.1 (by first|rfl|trivial)))];exact g7.o)
                clear g7 gA;go_wp2_with fail;go_roundw
                case rel=>exact⟨j+1,_,g5,rfl,by go_num,gd,gD,Hd (.inr trivial)⟩
                case measure=>simp[intOf];omega
              | false =>
                have hT:Hq (Xj (j+1)=Xj j++[H]):=Hd (by
                 rw[HJ.o];unfold addF;rw[Vs];rintro(e|e)
                 . exact ha.o e
                 . have:=gV.o.2 e;cases this)
                obtain⟨rs,q1,q2,q3⟩:=g7.o.rx.ex;have gu:=Hd q2;have hZ:rs.length<=900:=by rw[q1];exact hm
                have gY:=Hd q3;have gZ:=Hd q1;have gr:B<=w6.heap.size:=by have:=gD.o.size;rw[g8.o];exact this
                clear q2 q3 q1;go_wp2_with (at_builtin;refine Cz FP _ rfl _ _ rfl B _ rs (.slice (some (Av g)) (2^n) (2^n)) rfl rfl rfl rfl rfl (by exact gu.o) (by omega) gr ?_;intro u9 w7 g0 g1 g2 g3 g4 gq);have g9:C4 u8 u9 w6 w7:=⟨g1,g2,g3,g4,gq⟩
                have gd:Hq (SzS n B w7 u3 u9 (A (k+1)) (Xj (j+1)) (some (Aw bq ofq)) N):=Hd (by
                 rw[hT.o];exact g7.o.appNx gZ.o gY.o gA.o g0 g9)
                have hU:=Hd (gD.o.trans (g9.below gr fun q hq=>(g7.o.rx.lt q hq).1));clear g0 g1 g2 g3 g4 gq g9 g7 gA gu;go_roundw
                case rel=>exact⟨j+1,_,g5,rfl,by go_num,gd,hU,Hd (.inr trivial)⟩
                case measure=>simp[intOf];omega
           ·obtain rfl:j=2:=by omega
            have ge:Hq (SzS n B wr u3 u8 (A (k+1)) (X (k+1)) (some (Aw bq ofq)) N):=Hd (by rw[<- hK.o];exact gc.o);clear gc;go_wp2_with fail;go_roundw
            case rel=>exact⟨k+1,_,_,gh,rfl,rfl,by go_num,ge,gp⟩
            case measure=>simp[intOf];omega
    ·obtain rfl:k=M:=by omega
     have km:Hq (OwnT n wr B u5 (bfA os Gs (p+1))):=Hd (by rw[<- kd.o];exact HS.o.ra);have ge:Hq (p+1<=n->∃ am cm,u8=.slice am (bfN os Gs (p+1)).length cm/\SzS n B wr u5 (.slice none 0 0) (bfA os Gs (p+1)) [] am (bfN os Gs (p+1))):=Hd fun h=>by
      have hs:=HS.o;rw[kd.o,kl.o (by omega)] at hs;have:=(ka.o (p+1) h).1;obtain⟨a,c,e,hh⟩:=hs.turn (by omega);exact⟨a,c,e,hh⟩
     clear HS;go_wp2_with fail;go_roundw
     case rel=>exact⟨p+1,_,_,by omega,rfl,rfl,by go_num,km,ge,hg⟩
     case measure=>simp[intOf];omega
  ·obtain rfl:p=n+1:=by omega
   have ki:=(J4 os Gs n)
   have kb:Hq (∃ a c,u5=.slice a (bfA os Gs (n+1)).length c):=Hd (by
    obtain⟨rs,q1,q2,_⟩:=HU.o.ex;obtain⟨a,c,e,_⟩:=q2.slice;exact⟨a,c,by rw[e,q1]⟩)
   obtain⟨a,c,rfl⟩:=kb.o;have kh:¬ ((n+1:Nat):Int)<=(n:Int):=by omega
   clear hQ HU ki kb;go_wp2_with fail;go_ret;exact⟨rfl,by have:=HB.o;rwa [g8.o] at this⟩
theorem Vd {l:Nat}(h1:lo<=l)(h2:l<=c)(w:Wd):(Instr.sliceAt 22 (.slice (some (Aw b off)) l c) (some (Iv (lo:Nat))) none none).run prog w=.ok (.slice (some ⟨b,if c-lo=0 then off else off+lo,none⟩) (l-lo) (c-lo)) w:=by
 have e1:(0:Int)<=lo/\(lo:Int)<=l:=by omega
 have e2:(0:Int)<=l/\(l:Int)<=c:=by omega
 have e3:(0:Int)<=c/\(c:Int)<=c:=by omega
 simp only[Instr.sliceAt,Instr.slice];go_simp
 by_cases e:c=lo
 . rw[Vw e,Vw (by omega)]
 . rw[Vs e,Vs (by omega)]
theorem Ar.from (h:Ar W (some (Aw b off)) zs)(hc:zs.length<=c):Ar W (some ⟨b,if c-lo=0 then off else off+lo,none⟩) (zs.drop lo) :=
 ⟨by have:=h.len;rw[XH];omega,fun k hk=>by
  rw[XH] at hk;obtain⟨b',off',e,hc'⟩:=h.cells (lo+k) (by omega);cases e;refine⟨b,off+lo,by rw[Vs (by omega)],?_⟩;rw[XD,hc'];unfold at0;simp[List.getD,XK]⟩
theorem Vf {o:Oper}{x lo:Operand}(ho:o.op=.slice t x (some lo) none none)(hr:(Instr.sliceAt t (a.eval x) (some (a.eval lo)) none none).run P w=.ok v w):(execOp a.eval o).run P w=.ok (.value v) w:=by
 unfold execOp;simp[ho,hr]
theorem AU.take {S:List Int}(h:i=0\/(AU S i b/\at0 S i<at0 S b)):AU S (i+1) i:=by
 refine⟨by omega,fun j hj=>?_,fun j hj=>?_⟩
 ·by_cases e:j=i
  . rw[e];exact Yc _
  ·rcases h with h|⟨h,h2⟩
   . omega
   . have:=h.2.1 j (by omega);omega
 ·rcases h with h|⟨h,h2⟩
  . omega
  . have:=h.2.1 j hj;omega
theorem AU.stay {S:List Int}(h:AU S i b)(hx:at0 S b<=at0 S i):AU S (i+1) b :=
 ⟨by have:=h.1;omega,fun j hj=>by
  by_cases e:j=i
  . rw[e];exact hx
  . exact h.2.1 j (by omega),h.2.2⟩
theorem NO:∀ k,1<=fcN k
 | 0=>Vu _
 | k+1=>by
   have:=NO k
   show 1<=(k+1)*fcN k
   have h:=XI (show 1<=k+1 by omega) this;omega
theorem Vg (hc:c<(ordR wd wd []).length):(ordR wd wd []).getD c []∈ordR wd wd []:=by
 rw[List.getD,VA hc];exact VG hc
theorem NQ (hl:vs.length=wd)(hs:vs.Pairwise (· < ·)):(ordS wd vs).getD i []=((ordR wd wd []).getD i []).map fun x=>at0 vs x.toNat:=by
 rw[NC hl hs];simp only[List.getD,WP];cases (ordR wd wd [])[i]?<;>rfl
theorem Vh (hzl:zs.length=n)(hlw:lv+wd<=n)(hvp:vs.Perm ((zs.drop lv).take wd))(hvs:vs.Pairwise (· < ·))(hi:i<(ordR wd wd []).length) :
 zs.take lv++(ordS wd vs).getD i []++zs.drop (lv+wd)=winZ zs vs lv ((ordR wd wd []).getD i [])/\(winZ zs vs lv ((ordR wd wd []).getD i [])).Perm zs/\((ordS wd vs).getD i []).length=wd:=by
 have g0:vs.length=wd:=by rw[hvp.length_eq];simp;omega
 obtain⟨p1,p2,_⟩:=Gq (Vg hi) g0;refine⟨?_,Jm (wd:=wd) (by omega) hvp p1 p2,by rw[NQ g0 hvs,VP,p2]⟩;rw[NQ g0 hvs];unfold winZ;rw[p2]
theorem Vi (hn6:n<=6)(hw1:1<=wd)(hw4:wd<=4)(hlw:lv+wd<=n)(hzr:A7 zs=true)(hzl:zs.length=n)(hvp:vs.Perm ((zs.drop lv).take wd))(hvs:vs.Pairwise (· < ·)){co fc:Nat}{fa:Option Addr}(hco:n<=co)(hz:Ar w (some (Av g)) zs)(hfs:RowT n w fa Gs)(hd:∀ G∈Gs,DepF n G)(hL:Gs.length*2^n<=320)(hfb:∀ x,fa=some x->0<Gs.length->x.block<w.heap.size) :
 Cl 43 #[.slice fa Gs.length fc,.slice (some (Av g)) n co,Iv (lv:Nat),Iv (wd:Nat)] w fun e w'=>∃ (v:Value) (b:Nat),AU (sizes22 n Gs zs vs lv wd) (ordR wd wd []).length b/\e=.returned (.tuple #[v,Iv (szO n Gs (winZ zs vs lv ((ordR wd wd []).getD b [])):Nat)])/\SliceIs w' v (winZ zs vs lv ((ordR wd wd []).getD b []))/\Bw w w':=by
 have gp:vs.length=wd:=by rw[hvp.length_eq];simp;omega
 have HZ:=Hd hz
 have gL:Ar w (some (Aw g lv)) ((zs.drop lv).take wd):=⟨by simp;omega,fun j hj=>by
  simp at hj;obtain⟨b,off,e,hc⟩:=hz.cells (lv+j) (by omega);injection e with e
  injection e with e1 e2
  subst e1 e2;refine⟨g,lv,rfl,?_⟩;rw[VW] at hc;rw[hc,E1 (by omega),Fm]⟩
 have h0:∀ y∈vs,0<=y:=fun y hy=>by
  have h1:=List.mem_of_mem_drop (Xy (hvp.mem_iff.1 hy));exact((E3 hzr hzl).2 y h1).1
 have gV:=Hd (NE wd hw4 ((zs.drop lv).take wd) vs (some (Aw g lv)) (co-lv) w (by simp;omega) gL hvp hvs h0);have hQ:(lv:Int)<=(co:Int):=by omega
 have hK:((lv:Int)+(wd:Int))<=(co:Int):=by omega
 have hJ:¬ co=lv:=by omega
 have gq:(ordS wd vs).length=fcN wd:=Gt wd vs gp hvs;have g8:(ordR wd wd []).length=(ordS wd vs).length:=by rw[NC gp hvs,VP]
 have gu:(ordS wd vs).length<=24:=by rw[gq];exact Jr hw4
 have gO:1<=(ordS wd vs).length:=by rw[gq];exact NO wd
 obtain⟨gs,g2⟩:=Ex (ordS wd vs);obtain⟨A1,gk⟩:=Ex (zs.take lv);obtain⟨D1,g9⟩:=Ex (zs.drop (lv+wd));obtain⟨Z,hZ⟩:=Ex (fun i=>winZ zs vs lv ((ordR wd wd []).getD i []):Nat->List Int)
 obtain⟨S,hS⟩:=Ex (sizes22 n Gs zs vs lv wd);have gC:Hq (∀ i,i<gs.length->A1++gs.getD i []++D1=Z i/\(Z i).Perm zs/\(gs.getD i []).length=wd):=Hd fun i hi=>by
  rw[gk,g9,hZ,g2];exact Vh hzl hlw hvp hvs (by rw[g8,<- g2];exact hi)
 have gA:Hq (∀ i,i<gs.length->at0 S i=((szO n Gs (Z i):Nat):Int)):=Hd fun i hi=>by
  rw[hS,hZ];exact Jp (by rw[g8,<- g2];exact hi)
 have gJ:Hq (A1.length=lv):=Hd (by rw[gk];simp;omega);have gE:Hq (D1.length=n-(lv+wd)):=Hd (by rw[g9];simp;omega);have hF:Hq (∀ W,Bw w W->Ar W (some (Av g)) A1):=Hd fun W hb=>by
  have h:=HZ.o.below hb;rw[gk]
  exact⟨by rw[Wz];have:=h.len;omega,fun j hj=>by
   rw[Wz] at hj;rw[E1 (by omega)];exact h.cells j (by omega)⟩
 have hD:Hq (∀ W off2 c2,(co-(lv+wd)=0/\off2=0/\c2=0)\/(co-(lv+wd)≠0/\off2=0+(lv+wd)/\c2=co-(lv+wd))->Bw w W->Ar W (some (Aw g off2)) D1):=Hd fun W off2 c2 hh hb=>by
  have h:=(HZ.o.below hb).from (c:=co) (lo:=lv+wd) (by omega)
  rw[g9];rcases hh with ⟨h1,h2,_⟩|⟨h1,h2,_⟩
  . rw[Vw h1] at h;rw[h2];exact h
  . rw[Vs h1] at h;rw[h2];exact h
 obtain⟨off2,g6⟩:∃ q,q=if co-(lv+wd)=0 then 0 else 0+(lv+wd):=⟨_,rfl⟩
 have hG:Hq (∀ w:Wd,(Instr.sliceAt 22 (.slice (some (Av g)) n co) (some (Iv (IntKind.i64.wrap ((lv:Int)+(wd:Int))))) none none).run prog w=.ok (.slice (some (Aw g off2)) (n-(lv+wd)) (co-(lv+wd))) w):=Hd fun w=>by
  have h:=Vd (b:=g) (off:=0) (l:=n) (c:=co) (lo:=lv+wd) hlw hco w;rw[<- g6,Int.natCast_add] at h;rw[Xf _ (by omega)];exact h
 have hC:Hq (∀ W,Bw w W->Ar W (some (Aw g off2)) D1):=Hd fun W hb=>by
  rw[g6,g9];exact(HZ.o.below hb).from (c:=co) (lo:=lv+wd) (by omega)
 have gK:Hq (∀ i,i<gs.length->∀ W,Bw w W->∀ a6 c6,Ar W a6 (Z i)->Cl 103 #[.slice fa Gs.length fc,.slice a6 n c6] W (Bl (Iv (szO n Gs (Z i):Nat)) W)):=Hd fun i hi W hb a6 c6 g1=>by
  obtain⟨_,hp,_⟩:=gC.o i hi;have h6:=E3 hzr hzl;have gm:(Z i).length=n:=by rw[hp.length_eq,hzl]
  have gM:∀ x∈Z i,0<=x/\x<(n:Int):=fun x hx=>h6.2 x (hp.mem_iff.1 hx)
  have e1:((Z i).map Int.toNat).map Int.ofNat=Z i:=by
   rw[Xa]
   conv=>rhs;rw[<- List.map_id (Z i)]
   exact List.map_congr_left fun x hx=>by have:=(gM x hx).1;exact Int.toNat_of_nonneg this
  have g0:∀ v∈(Z i).map Int.toNat,v<n:=fun v hv=>by
   obtain⟨x,hx,rfl⟩:=VD.1 hv;have:=gM x hx;omega
  have h7:∀ v,v<n->v∈(Z i).map Int.toNat:=fun v hv=>by
   have h1:(v:Int)∈zs:=Np hzr hzl ⟨by omega,by omega⟩;exact VD.2 ⟨(v:Int),hp.mem_iff.2 h1,rfl⟩
  have h:=Vc hn6 (os:=(Z i).map Int.toNat) (by simpa using gm) g0 (ao:=a6) (co:=c6) (fc:=fc) (w:=W) (by rw[e1];exact g1) (hfs.below hb) hd hL (fun x hx hp=>VJ (hfb x hx hp) hb.size);rw[UX (by simpa using gm) g0 h7 hd] at h;exact h
 have ha:Hq (∀ i,szO n Gs (Z i)<=320):=Hd fun i=>Vy (Jj _ _ _) hL
 rw[<- g2] at g8 gu gO;have gl:Hq (∀ b:Nat,winZ zs vs lv ((ordR wd wd [])[b]?.getD [])=Z b):=Hd fun b=>by rw[hZ];rfl
 have hH:=Hd g2;obtain⟨M,hM⟩:=Ex gs.length;have ga:=Hd hM;rw[g8,<- hM,<- hS];have hN:M<=24:=by omega
 have hT:1<=M:=by omega
 clear g6 hD gL h0 hz hzr hzl hvp hvs gp hfs hd hL hfb gq g8 gu gO g2 gk g9 hZ hS hM
 go_enter func43,ntmps43
 go_wp2_with fail;refine gV.o.mono ?_;rintro x0 w1 ⟨v,rfl,hg,gQ⟩;rw[<- hH.o] at hg;have HV:=Hd hg;have g7:=Hd gQ;obtain⟨av,cv,rfl,hP⟩:=(hg.is (by rw[<- ga.o];omega)).slice;rw[<- ga.o];clear hg gQ gV;go_wp2_with fail
 go_loopw [10,11,13] (fun s10 s11 s13 wr=>∃ (i sz:Nat) (bv:Value),i<=M/\s10=bv/\s11=Iv (sz:Nat)/\s13=Iv (i:Nat)/\sz<=320/\Hq (i=0\/∃ b,AU S i b/\sz=szO n Gs (Z b)/\SliceIs wr bv (Z b))/\Hq (Bw w1 wr)) (fun _ _ s13 _=>M-(intOf s13).toNat)
 case atStart=>exact⟨0,0,_,VC _,rfl,rfl,rfl,by omega,Hd (.inl rfl),Hd (VI _ _)⟩
 case round =>
  obtain⟨i,sz,bv,hi,rfl,rfl,rfl,hk,HF,HB⟩:=hrel
  by_cases g0:i<M
  ·have hB:(i:Int)<(M:Int):=by omega
   have gi:i<gs.length:=by rw[<- ga.o];exact g0
   obtain⟨gd,hr,gt⟩:=gC.o i gi;have gS:Hq (RowN w.heap.size (.slice av M cv) gs wr):=Hd (by have h:=HV.o.below HB.o;rwa [<- ga.o] at h);obtain⟨bv,ov,c9,a2,c2,e9,hc,gn,hq⟩:=(gS.o.is (by rw[<- ga.o];omega)).elem gi;injection e9 with e91 e92 e93
   subst e91;obtain⟨R,hR⟩:=Ex (gs.getD i []);rw[<- hR] at hc gn gd gt;have gZ:=Hd gd;have g4:=Hd (g7.o.trans (HB.o.mono g7.o.size));obtain⟨wE,ge⟩:∃ X,X=wr.drew.alloc (.cells #[] 3):=⟨_,rfl⟩;have g5:Hq (Bw wr wE):=Hd (by rw[ge];exact NT wr 1 _)
   have gB:Hq (OwnI wE wr.heap.size (.slice (some (Av wr.heap.size)) 0 0) []):=Hd (by
    rw[ge];exact⟨rfl,.inr ⟨wr.heap.size,0,#[],rfl,Vu _,Vv _ _,Vu _,VC _,rfl,rfl⟩⟩)
   have gc:Hq (∀ W,Bw wr W->W.cell? (Aw bv (ov+i))=some (.slice a2 R.length c2)):=Hd fun W hb=>(Cq hb hc)
   have gP:=gc.o _ (Am wr 1);have hE:Hq (∀ W,Bw wr W->Ar W a2 R):=Hd fun W hb=>gn.below hb
   have h9:Hq (∀ W,Bw wr W->Ar W (some (Av g)) A1):=Hd fun W hb=>hF.o W (g4.o.trans (hb.mono g4.o.size))
   have h8:Hq (∀ W,Bw wr W->Ar W (some (Aw g off2)) D1):=Hd fun W hb=>hC.o W (g4.o.trans (hb.mono g4.o.size))
   have gz:Hq ((A1++R++D1).length=n):=Hd (by rw[Vx,Vx,gJ.o,gE.o,gt];omega);rw[ge] at gB g5;have hm:wr.heap.size<=(wr.drew.alloc (.cells #[] 3)).heap.size:=g5.o.size;have gR:=Hd (gK.o i gi);have gD:Hq (A1.length<=100/\R.length<=100/\D1.length<=100):=Hd ⟨by have:=gJ.o;omega,by omega,by have:=gE.o;omega⟩;clear gd hr gt gS gn ge hR e92 e93;go_upto_region 7 with fail;refine AJ (fun W':Wd=>W'.cell? (Aw bv (ov+i))=some (.slice a2 R.length c2)/\True) false 17 [(1,false),(2,false),(3,false),(5,false),(6,false),(7,false),(8,false),(10,false),(11,false),(12,false),(13,false),(14,false),(0,true),(4,true),(9,true),(15,true),(16,false)] (by kernel_rfl) (by kernel_rfl) ⟨gP,trivial⟩ ?_;simp only[planned,AH]
   iterate 11
    refine Aq rfl ?_;apply Exists.intro;refine⟨fun w' hw=>?_,?_⟩
    . obtain⟨h1,_⟩:=hw;go_simp;rfl
    simp only[Ab]
   refine Aq rfl ⟨.slice (some (Aw g off2)) (n-(lv+wd)) (co-(lv+wd)),fun w' hw=>?_,?_⟩
   . exact Vf rfl (hG.o w')
   simp only[Ab];refine E6 rfl (w':=wr.drew.alloc (.cells #[] 3)) (v:=.slice (some (Av wr.heap.size)) 0 0) (by go_simp) ⟨gc.o _ g5.o,trivial⟩ ?_;simp only[Ab];refine Jn rfl ?_;refine De rfl _ _ rfl wr.heap.size wr (.slice (some (Av wr.heap.size)) 0 0) [] A1 (some (Av g)) co rfl (by rw[gJ.o];rfl) gB.o (h9.o _ g5.o) (by have:=gD.o;simp;omega) hm g5.o (fun e=>by cases e) ?_;intro v4 w4 gh gx ho hA;refine⟨rfl,⟨gc.o _ gx,trivial⟩,?_⟩;have gY:Hq (OwnI w4 wr.heap.size v4 A1):=Hd gh;have gI:=Hd gx;clear gh gx hA;simp only[Ab];refine Jn rfl ?_;refine De rfl _ _ rfl wr.heap.size wr v4 A1 R a2 c2 rfl rfl gY.o (hE.o _ gI.o) (by have:=gD.o;omega) ho gI.o hq ?_;intro v5 w5 gg gw hn hu;refine⟨rfl,⟨gc.o _ gw,trivial⟩,?_⟩;have gX:=Hd gg;have gH:=Hd gw;clear gg gw hu;simp only[Ab];refine Jn rfl ?_;refine De rfl _ _ rfl wr.heap.size wr v5 (A1++R) D1 (some (Aw g off2)) (co-(lv+wd)) rfl (by rw[gE.o];rfl) gX.o (h8.o _ gH.o) (by have:=gD.o;rw[Vx];omega) hn gH.o (fun e=>by cases e) ?_;intro v6 w6 gf gj hO ht;refine⟨rfl,⟨gc.o _ gj,trivial⟩,?_⟩;obtain⟨a6,c6,e6,g1,gr⟩:=gf.sliceIs (by have:=gz.o;omega);rw[gz.o] at e6;subst e6;rw[gZ.o] at g1;have gU:Hq (SliceIs w6 (.slice a6 n c6) (Z i)):=Hd ⟨a6,c6,by have h:=gz.o;rw[gZ.o] at h;rw[h],g1,gr⟩;have h3:=Hd (gR.o w6 (g4.o.trans (gj.mono g4.o.size)) a6 c6 g1);have gG:=Hd gj;clear gf gj ht g1 gr gX gH gY gI gB g5 gP hc;simp only[Ab]
   iterate 1
    refine Aq rfl ?_;apply Exists.intro;refine⟨fun w' hw=>?_,?_⟩
    . obtain⟨h1,_⟩:=hw;go_simp;rfl
    simp only[Ab]
   refine Bs ?_;go_wp2_with fail;refine h3.o.mono ?_;rintro y0 w7 ⟨rfl,gv⟩;have h4:=Hd (gG.o.trans (gv.mono gG.o.size));have gF:Hq (Bw w1 w7):=Hd (HB.o.trans (h4.o.mono HB.o.size));have gT:=Hd (gU.o.below gv);have gy:=gA.o i gi;have go:=ha.o i;obtain⟨x,hx⟩:=Ex (szO n Gs (Z i));rw[<- hx] at gy go ⊢;have h5:=Hd gy;have HX:=Hd hx;clear gv h3 gR gU gG gy hx
   by_cases h0:i=0
   ·have he:((i:Int) == 0)=true:=by simp[h0]
    have HN:Hq (i+1=0\/∃ b,AU S (i+1) b/\x=szO n Gs (Z b)/\SliceIs w7 (.slice a6 n c6) (Z b)):=Hd (.inr ⟨i,AU.take (b:=i) (.inl h0),HX.o,gT.o⟩);clear h0 HF;go_wp2_with fail;go_roundw
    case rel=>exact⟨i+1,x,_,g0,rfl,rfl,by go_num,go,HN,gF⟩
    case measure=>simp[intOf];omega
   ·have he:((i:Int) == 0)=false:=by rw[WT];omega
    have g3:Hq (∃ b,AU S i b/\sz=szO n Gs (Z b)/\SliceIs w7 u10 (Z b)/\at0 S b=(sz:Int)):=Hd (by
     rcases HF.o with h|⟨b,q1,q2,q3⟩
     . exact absurd h h0
     . exact⟨b,q1,q2,q3.below h4.o,by rw[gA.o b (by have:=q1.1;omega),q2]⟩)
    clear HF
    by_cases hf:(x:Int)<(sz:Int)
    ·have HN:Hq (i+1=0\/∃ b,AU S (i+1) b/\x=szO n Gs (Z b)/\SliceIs w7 (.slice a6 n c6) (Z b)):=Hd (.inr (by
      obtain⟨b,q1,q2,q3,q4⟩:=g3.o;exact⟨i,AU.take (b:=b) (.inr ⟨q1,by rw[h5.o,q4];exact hf⟩),HX.o,gT.o⟩))
     clear h0 g3;go_wp2_with fail;go_roundw
     case rel=>exact⟨i+1,x,_,g0,rfl,rfl,by go_num,go,HN,gF⟩
     case measure=>simp[intOf];omega
    ·have HN:Hq (i+1=0\/∃ b,AU S (i+1) b/\sz=szO n Gs (Z b)/\SliceIs w7 u10 (Z b)):=Hd (.inr (by
      obtain⟨b,q1,q2,q3,q4⟩:=g3.o;exact⟨b,AU.stay q1 (by rw[h5.o,q4];omega),q2,q3⟩))
     clear h0 g3;go_wp2_with fail;go_roundw
     case rel=>exact⟨i+1,sz,_,g0,rfl,rfl,by go_num,hk,HN,gF⟩
     case measure=>simp[intOf];omega
  ·have gN:i=M:=by omega
   have hB:¬ (i:Int)<(M:Int):=by omega
   have hI:=Hd (g7.o.trans (HB.o.mono g7.o.size))
   have g3:Hq (∃ b,AU S M b/\sz=szO n Gs (Z b)/\SliceIs wr u10 (Z b)):=Hd (by
    rcases HF.o with h|h
    . omega
    . rw[<- gN];exact h)
   clear HF gN g0 hi;go_wp2_with fail;refine VR (Xx rfl _ _ _) rfl ?_;obtain⟨b,q1,q2,q3⟩:=g3.o;exact⟨u10,b,q1,by rw[gl.o b,<- q2];rfl,by rw[gl.o b];exact q3,hI.o⟩
theorem rise22 (hzr:A7 zs=true)(hzl:zs.length=n)(hlw:lv+wd<=n)(hvp:vs.Perm ((zs.drop lv).take wd))(hs:Be wd vs):vs.Pairwise (· < ·):=by
 have g2:vs.length=wd:=by rw[hvp.length_eq];simp;omega
 have g1:vs.Nodup:=hvp.nodup_iff.2 (((E3 hzr hzl).1.sublist (List.drop_sublist _ _)).sublist (List.take_sublist _ _));refine WE.2 fun i j hi hj g0=>?_
 have h1:=hs i j g0 (by omega);rw[As hi,As hj] at h1;have h2:=WE.1 g1 i j hi hj g0;omega
theorem Vk (hn6:n<=6)(hw1:1<=wd)(hw4:wd<=4)(hlw:lv+wd<=n){ts:List Int}(hzr:A7 zs=true)(hzl:zs.length=n){co fc:Nat}{fa:Option Addr}(hwr:WinR n Gs zs lv wd k ts)(hco:n<=co)(hz:Ar w (some (Av g)) zs)(hfs:RowT n w fa Gs)(hd:∀ G∈Gs,DepF n G)(hL:Gs.length*2^n<=320)(hfb:∀ x,fa=some x->0<Gs.length->x.block<w.heap.size) :
 Cl 43 #[.slice fa Gs.length fc,.slice (some (Av g)) n co,Iv (lv:Nat),Iv (wd:Nat)] w fun e w'=>∃ v,e=.returned (.tuple #[v,Iv (k:Nat)])/\SliceIs w' v ts/\Bw w w':=by
 obtain⟨vs,b,h1,h2,h3,rfl,rfl⟩:=hwr;refine(Vi hn6 hw1 hw4 hlw hzr hzl h1 (rise22 hzr hzl hlw h1 h2) hco hz hfs hd hL hfb (fc:=fc)).mono ?_;rintro e w' ⟨v,b',g1,rfl,g3,g4⟩;obtain rfl:b'=b:=U8 g1 h3;exact⟨v,rfl,g3,g4⟩
theorem LwB.rowT {o:Own}(q:Q23 n hs nx)(h:LwB n base vl vx hs W o){d:Nat}(hd:d<=hs.length) :
 ∃ a c,vx=.slice a hs.length c/\RowT n W a ((hs.take d).map Prod.snd)/\∀ x,a=some x->0<((hs.take d).map Prod.snd).length->x.block<W.heap.size:=by
 obtain⟨rs,h1,h2,h3⟩:=h.2.ex;rw[VP] at h1;obtain⟨a,c,e,_⟩:=h2.slice;refine⟨a,c,by rw[e,h1],⟨by simp;have:=q.h5;omega,fun i hi=>?_⟩,fun x hx hp=>?_⟩
 ·simp at hi;obtain⟨g,cap,e2,_,_⟩:=h2.shape (by omega);rw[e] at e2;injection e2 with e2 _ _
  subst e2;have hc:=h2;rw[e] at hc;have g0:=hc.cell i (by omega);have hb:=h3 i rs[i] (by simp);have eu:(hs.map fun p=>tabB n p.2).getD i []=tabB n hs[i].2:=by simp[List.getD,show i<hs.length by omega]
  rw[eu] at hb;refine⟨g,0,rs[i],rfl,by rw[VW,g0];simp,⟨?_,fun k hk=>?_⟩⟩
  . have:=hb.is;simpa using this
  . obtain⟨_,q2,_,q4⟩:=hb.no k hk;exact⟨q2,q4⟩
 ·obtain⟨g,cap,e2,_,h4⟩:=h2.shape (by simp at hp;omega);rw[e] at e2;injection e2 with e2 _ _
  subst e2;cases hx;exact h4
open Go.RowKit Go.Deep Go.ChangeShapes Go.WideShapes
theorem wfI {x:Int}(h:(Lit.int .i64 x).wf=true):okI x:=by
 unfold okI;simp only[Lit.wf,IntKind.min,IntKind.max,IntKind.signed,IntKind.bits,Wq,WH,Wy] at h;omega
theorem J6 (k:Nat):((Aw b off):Addr).add k=(Aw b (off+k)):=by unfold Addr.add;split<;>simp_all
theorem add0 (a:Addr):a.add 0=a:=by simp[Addr.add]
theorem J7 {a:Addr}(h:w.cell? a=some v):a.spot=none:=by
 obtain⟨b,off,spot⟩:=a;cases spot with
 | none=>rfl
 | some s=>simp[World.cell?] at h;split at h<;>simp at h
theorem Vl {p:Nat->Ev->Prop}(h:∀ i,i<n->∃ x,p i x):∃ f:Nat->Ev,∀ i,i<n->p i (f i):=by
 classical
 refine⟨fun i=>if hi:i<n then Classical.choose (h i hi) else ⟨0,0,0⟩,fun i hi=>?_⟩;simp only[dif_pos hi];exact Yj (h i hi)
theorem J8 {H:Type}{enc:TypeId×Value->H}{e:TypeId}{cs:List Value}{x:DataW H×List MemPlace}(ht:P.underlying t=some (.slice e))(h:DataW.trod enc P w base spare held fuel t cs=some x) :
 cs=[.slice none 0 0]\/∃ (a:Addr) (len cap n:Nat),cs=[.slice (some a) len cap]/\len<=cap/\cap<=maxLen/\fuel=n+1/\∀ i,i<len->∃ cs' y,w.cells? base (a.add (i*P.cellsOf e)) (P.cellsOf e)=some cs'/\DataW.trod enc P w base spare held n e cs'=some y:=by
 rcases DataW.trod_slice ht h with ⟨h0,_⟩|⟨a,len,cap,elems,rest,n,hn,e1,_,_,hl,hm,g1,g0,_⟩
 . exact .inl h0
 . refine .inr ⟨a,len,cap,n,e1,hl,hm,hn,fun i hi=>?_⟩;have:=g0 i hi;rw[VA (by omega)] at this;obtain⟨cs',h1,h2⟩:=Option.bind_eq_some_iff.1 this;exact⟨cs',_,h1,h2⟩
abbrev Yi:=@DataW.trod_int
theorem open_expr {H:Type}{enc:TypeId×Value->H}:∀ (fuel:Nat) {cs:List Value} {x:DataW H×List MemPlace},
 DataW.trod enc prog w base spare held fuel 79 cs=some x->∃ e x0 x1 x2,cs=[x0,x1,x2]/\A5 w e (.agg #[x0,x1,x2]):=by
 intro fuel
 induction fuel using Nat.strongRecOn with
 | _ fuel IH =>
   intro cs x h;obtain⟨xs,k,hk,g8,g5,g6,hf⟩:=DataW.trod_struct underlying79 h;have c1:prog.cellsOf 3=1:=by kernel_rfl
   have c2:prog.cellsOf 23=1:=by kernel_rfl
   have c3:prog.cellsOf 79=3:=by kernel_rfl
   rw[c3] at g5
   match xs,g6,cs,g5 with
   | [y0,y1,y2],_,[v0,v1,v2],_ =>
     have g0:=hf 0 _ rfl;have g1:=hf 1 _ rfl;have g2:=hf 2 _ rfl;simp[c1,c2] at g0 g1 g2;obtain⟨n0,e0,_,w0⟩:=Yi underlying3 g0;obtain⟨n1,e1,_,w1⟩:=Yi underlying3 g1;simp only[X1,and_true] at e0 e1;subst e0 e1;rcases J8 underlying23 g2 with e2|⟨a,len,cap,n,e2,hl,hm,g9,hx⟩
     . simp only[X1,and_true] at e2;subst e2;exact⟨.mk n0 n1 0 (fun _=>.nil),_,_,_,rfl,by unfold A5;exact⟨none,0,rfl,wfI w0,wfI w1,by omega,fun k hk=>by omega⟩⟩
     ·simp only[X1,and_true] at e2;subst e2;have each:∀ i,i<len->∃ q:ExT,∃ x0 x1 x2,w.cell? (a.add (i*3))=some x0/\w.cell? ((a.add (i*3)).add 1)=some x1/\w.cell? ((a.add (i*3)).add 2)=some x2/\A5 w q (.agg #[x0,x1,x2]):=by
       intro i hi;obtain⟨cs',y,h1,h2⟩:=hx i hi;rw[c3] at h1;obtain⟨_,g7,g3⟩:=World.cells?_some h1;obtain⟨e,x0,x1,x2,rfl,he⟩:=IH n (by omega) h2;have f0:=g3 0 (by omega);have f1:=g3 1 (by omega);have f2:=g3 2 (by omega);rw[add0] at f0;exact⟨e,x0,x1,x2,by simpa using f0,by simpa using f1,by simpa using f2,he⟩
      obtain⟨q,hq⟩:=choose_lt each;refine⟨.mk n0 n1 len q,_,_,_,rfl,?_⟩;unfold A5;refine⟨some a,cap,rfl,wfI w0,wfI w1,by unfold maxLen at hm;omega,fun i hi=>?_⟩;obtain⟨x0,x1,x2,f0,f1,f2,he⟩:=hq i hi;have g4:a.spot=none:=by
       obtain⟨_,_,_,q0,_⟩:=hq 0 (by omega);have:=J7 q0;simpa [Addr.add] using this
      obtain⟨b,off,spot⟩:=a;dsimp only at g4;subst g4;simp only[J6] at f0 f1 f2;exact⟨b,off,x0,x1,x2,rfl,f0,f1,f2,he⟩
theorem Vm {H:Type}{enc:TypeId×Value->H}{cs:List Value}{x:DataW H×List MemPlace}
 (h:DataW.trod enc prog w base spare held fuel 23 cs=some x):∃ a l cap,cs=[.slice a l.length cap]/\EP w a l:=by
 have c3:prog.cellsOf 79=3:=by kernel_rfl
 rcases J8 underlying23 h with e2|⟨a,len,cap,n,e2,hl,hm,g4,hx⟩
 . exact⟨none,[],0,e2,⟨by simp,fun k hk=>by simp at hk⟩⟩
 ·subst e2;have each:∀ i,i<len->∃ q:ExT,∃ x0 x1 x2,w.cell? (a.add (i*3))=some x0/\w.cell? ((a.add (i*3)).add 1)=some x1/\w.cell? ((a.add (i*3)).add 2)=some x2/\A5 w q (.agg #[x0,x1,x2]):=by
   intro i hi;obtain⟨cs',y,h1,h2⟩:=hx i hi;rw[c3] at h1;obtain⟨_,g3,g0⟩:=World.cells?_some h1;obtain⟨e,x0,x1,x2,rfl,he⟩:=open_expr n h2;have f0:=g0 0 (by omega);have f1:=g0 1 (by omega);have f2:=g0 2 (by omega);rw[add0] at f0;exact⟨e,x0,x1,x2,by simpa using f0,by simpa using f1,by simpa using f2,he⟩
  obtain⟨q,hq⟩:=choose_lt each;refine⟨some a,(List.range len).map q,cap,by simp,⟨by unfold maxLen at hm;simp;omega,fun i hi=>?_⟩⟩;have g2:i<len:=by simpa using hi
  obtain⟨x0,x1,x2,f0,f1,f2,he⟩:=hq i g2;have g1:a.spot=none:=by
   obtain⟨_,_,_,q0,_⟩:=hq 0 (by omega);have:=J7 q0;simpa [Addr.add] using this
  obtain⟨b,off,spot⟩:=a;dsimp only at g1;subst g1;simp only[J6] at f0 f1 f2;exact⟨b,off,x0,x1,x2,rfl,f0,f1,f2,by simpa using he⟩
theorem open_evs {H:Type}{enc:TypeId×Value->H}{cs:List Value}{x:DataW H×List MemPlace}
 (h:DataW.trod enc prog w base spare held fuel 24 cs=some x):∃ a l cap,cs=[.slice a l.length cap]/\EvsAt w a l/\(∀ ev∈l,okI ev.after/\okI ev.kind/\okI ev.level)/\(a=none->cap=0)/\l.length<=cap/\cap<=maxLen:=by
 have c1:prog.cellsOf 3=1:=by kernel_rfl
 have c3:prog.cellsOf 77=3:=by kernel_rfl
 rcases J8 underlying24 h with e2|⟨a,len,cap,n,e2,hl,hm,ga,hx⟩
 . exact⟨none,[],0,e2,⟨by simp,fun k hk=>by simp at hk⟩,by simp,fun _=>rfl,by simp,by simp⟩
 ·subst e2;have each:∀ i,i<len->∃ q:Ev,w.cell? (a.add (i*3))=some (Iv q.after)/\w.cell? ((a.add (i*3)).add 1)=some (Iv q.kind)/\w.cell? ((a.add (i*3)).add 2)=some (Iv q.level)/\okI q.after/\okI q.kind/\okI q.level:=by
   intro i hi;obtain⟨cs',y,h1,h2⟩:=hx i hi;rw[c3] at h1;obtain⟨_,g5,g3⟩:=World.cells?_some h1;obtain⟨xs,k,hk,g9,_,g6,hf⟩:=DataW.trod_struct underlying77 h2
   match xs,g6,cs',g5 with
   | [y0,y1,y2],_,[v0,v1,v2],_ =>
     have g0:=hf 0 _ rfl;have g1:=hf 1 _ rfl;have g2:=hf 2 _ rfl;simp[c1] at g0 g1 g2;obtain⟨n0,e0,_,w0⟩:=Yi underlying3 g0;obtain⟨n1,e1,_,w1⟩:=Yi underlying3 g1;obtain⟨n2,e2,_,w2⟩:=Yi underlying3 g2;simp only[X1,and_true] at e0 e1 e2;subst e0 e1 e2;have f0:=g3 0 (by omega);have f1:=g3 1 (by omega);have f2:=g3 2 (by omega);rw[add0] at f0;exact⟨⟨n0,n1,n2⟩,by simpa using f0,by simpa using f1,by simpa using f2,wfI w0,wfI w1,wfI w2⟩
  obtain⟨q,hq⟩:=Vl each;refine⟨some a,(List.range len).map q,cap,by simp,⟨by unfold maxLen at hm;simp;omega,fun i hi=>?_⟩,?_,by simp,by simpa using hl,hm⟩
  ·have g7:i<len:=by simpa using hi
   obtain⟨f0,f1,f2,_⟩:=hq i g7;have g4:a.spot=none:=by
    obtain⟨q0,_⟩:=hq 0 (by omega);have:=J7 q0;simpa [Addr.add] using this
   obtain⟨b,off,spot⟩:=a;dsimp only at g4;subst g4;simp only[J6] at f0 f1 f2;exact⟨b,off,rfl,by simpa using f0,by simpa using f1,by simpa using f2⟩
  . intro ev g8;obtain⟨i,hi,rfl⟩:=VD.1 g8;exact(hq i (by simpa using hi)).2.2.2
theorem open_ask {H:Type}{enc:TypeId×Value->H}{x:DataW H×List MemPlace}(hv:v=.agg cs)
 (h:DataW.trod enc prog w base (fun _=>true) held fuel 26 v.cells.toList=some x):∃ q ao ae ap co ce cp,v=askV q ao ae ap co ce cp/\AskAt w q ao ae ap/\(∀ ev∈q.plan,okI ev.after/\okI ev.kind/\okI ev.level)/\(ao=none->co=0)/\(ap=none->cp=0)/\q.plan.length<=cp/\cp<=maxLen:=by
 subst hv;obtain⟨xs,k,hk,gi,g5,g7,hf⟩:=DataW.trod_struct underlying26 h;have c1:prog.cellsOf 3=1:=by kernel_rfl
 have c2:prog.cellsOf 22=1:=by kernel_rfl
 have c4:prog.cellsOf 23=1:=by kernel_rfl
 have c5:prog.cellsOf 24=1:=by kernel_rfl
 have c3:prog.cellsOf 26=4:=by kernel_rfl
 rw[c3] at g5;obtain⟨cl⟩:=cs;simp only[Value.cells] at g5 hf
 match xs,g7,cl,g5 with
 | [y0,y1,y2,y3],_,[v0,v1,v2,v3],_ =>
   have g0:=hf 0 _ rfl;have g1:=hf 1 _ rfl;have g2:=hf 2 _ rfl;have g3:=hf 3 _ rfl;simp[c1,c2,c4,c5] at g0 g1 g2 g3;obtain⟨n0,e0,_,w0⟩:=Yi underlying3 g0;simp only[X1,and_true] at e0;subst e0;obtain⟨ao,zs,co,e1,gf,gc⟩:∃ a zs c,v1=.slice a zs.length c/\Ar w a zs/\(a=none->c=0):=by
    rcases open_ints underlying22 underlying3 (by kernel_rfl) g1 with ⟨g4,_⟩|⟨x,l,c,zs,g4,_,hl,hm,hz,_,g6,g8⟩
    . simp at g4;subst g4;obtain⟨a,c,e,h1,h2⟩:=sliceIs_of_row (w:=w) (a:=none) (len:=0) (cap:=0) (.inl ⟨rfl,rfl,rfl,rfl⟩);exact⟨a,_,c,e,h1,h2⟩
    . simp at g4;subst g4;obtain⟨a,c,e,h1,h2⟩:=sliceIs_of_row (w:=w) (.inr ⟨_,rfl,hl,hm,by simpa using hz,g6,g8⟩);exact⟨a,_,c,e,h1,h2⟩
   obtain⟨ae,es,ce,e2,gh⟩:=Vm g2;obtain⟨ap,evs,cp,e3,gg,g9,ga,ge,gd⟩:=open_evs g3;simp only[X1,and_true] at e2 e3;subst e1 e2 e3;exact⟨⟨n0,zs,es,evs⟩,ao,ae,ap,co,ce,cp,rfl,⟨wfI w0,gf,gh,gg⟩,g9,gc,ga,ge,gd⟩
end Go.Proofs.YtkidaindpahefaaGreat
