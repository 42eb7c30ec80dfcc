/- Several texts in one file: contracts of the program's functions and what follows from them. -/
import Derived.Test.YtkidaindpahefaaGreatY3
set_option linter.unusedSimpArgs false
set_option linter.unusedVariables false
set_option linter.unusedSectionVars false
set_option linter.unnecessarySimpa false
set_option maxRecDepth 100000
set_option maxHeartbeats 8000000
namespace Go.Proofs.YtkidaindpahefaaGreat
open Go.Proofs.Tryz
open Go.RowKit
variable {C M:Nat->Prop}{F G:BF}{K:Law}{L:Array Bool}{Od:List Nat->Prop}{P:Program}{Q:Exit->Act->Wd->Prop}{R:Role->Prop}{S:Wd->Prop}{T:TypeId}{V V':Nat->BF}{W W' W0 w w' w'' w0 w1:Wd}{a:Act}{args lop:Array Value}{b:BN}{base c cap e f gb i id k k' lo mb n n₀ pb room sb x:Nat}{bs:List Bool}{d d':Ae}{ev:Ev}{fl ks ys zs:List Int}{fs hs:List (Int×BF)}{gs:List (List Int)}{l:List Oper}{lim:Option Nat}{lv u v v' vl vx:Value}{m m':ManD}{nx:Int}{o' o'' oG:Own}{ops:Array Oper}{p:Ad}{pre:List Nat}{ws ws0:List Ev}{xs:List Value}
theorem KZ {a b:Option Addr}{d:Nat}{xs:List Int}(hx:Au W a xs)(hy:Au W b ys)(hl:xs.length<=1000000) :
 Cl 22 #[.slice a xs.length c,.slice b ys.length d] W (Bl (.bool (decide (xs=ys))) W):=by
 have HX:=Hd hx;have HY:=Hd hy;clear hx hy
 by_cases g0:xs.length=ys.length
 ·have HL:=Hd g0;have g4:((xs.length:Int) != (ys.length:Int))=false:=by rw[g0];simp
  obtain⟨L,hL⟩:=Ex xs.length;have g6:=Hd hL;rw[<- g0] at g4 ⊢;rw[<- hL] at hl g4 ⊢;clear g0 hL
  go_enter func22,ntmps22
  go_wp2_with fail
  go_loopw [4,5] (fun _ s5 wx=>∃ i:Nat,i<=L/\s5=Iv i/\Hq (Bw W wx)/\Hq (∀ j,j<i->at0 xs j=at0 ys j)) (fun _ s5 _=>L-(intOf s5).toNat)
  case atStart=>exact⟨0,Vu _,rfl,Hd (VA _ _),Hd fun j hj=>by omega⟩
  case round =>
   obtain⟨i,hi,rfl,HB,HE⟩:=hrel
   by_cases g7:i<L
   ·have ga:(i:Int)<(L:Int):=by omega
    obtain⟨wz,g3⟩:∃ w,w=wr.drew:=⟨_,rfl⟩;have g5:=Hd g3;have g2:Hq (Bw W wz):=Hd (by rw[g3];exact HB.o.trans ((An wr 1).mono HB.o.size));obtain⟨ba,oa,ea,x1⟩:=(HX.o.below g2.o).cells i (by rw[<- g6.o];exact g7);obtain⟨bb,ob,eb,y1⟩:=(HY.o.below g2.o).cells i (by rw[<- HL.o,<- g6.o];exact g7);subst ea eb;obtain⟨u,hu⟩:=Ex (at0 xs i);obtain⟨v,hv⟩:=Ex (at0 ys i);rw[<- hu] at x1;rw[<- hv] at y1;have HU:=Hd hu;have g8:=Hd hv;clear hu hv HB g3;go_upto_region 6 with fail;refine AD (fun w':Wd=>w'.cell? (Aw ba (oa+i))=some (Iv u)/\w'.cell? (Aw bb (ob+i))=some (Iv v)) false 9 [(0,false),(1,false),(2,false),(3,false),(4,false),(5,false),(6,false),(7,false),(8,false)] (by kernel_rfl) (by kernel_rfl) (by rw[<- g5.o];exact⟨x1,y1⟩) ?_;simp only[planned,AC]
    iterate 9
     refine As rfl ?_;apply Exists.intro;refine⟨fun w' hw=>?_,?_⟩
     . obtain⟨h1,h2⟩:=hw;go_simp;rfl
     simp only[Ac]
    refine Bs ?_;rw[<- g5.o];clear g5 x1 y1
    by_cases g1:u=v
    ·have hb:(u != v)=false:=by simp[g1]
     have g9:Hq (∀ j,j<i+1->at0 xs j=at0 ys j):=Hd fun j hj=>by
      rcases VB j i with c|c
      . exact HE.o j c
      ·obtain rfl:j=i:=by omega
       rw[<- HU.o,<- g8.o];exact g1
     clear g1 HE;go_wp2_with fail;go_roundw
     case rel=>exact⟨i+1,by omega,by go_num,g2,g9⟩
     case measure=>simp[intOf];omega
    ·have hb:(u != v)=true:=by simp[g1]
     have HF:Hq (decide (xs=ys)=false):=Hd (VU fun e=>g1 (by rw[HU.o,g8.o,e]));clear g1 HE;go_wp2_with fail;go_ret;exact⟨by rw[HF.o];rfl,g2.o⟩
   ·obtain rfl:i=L:=by omega
    have HF:Hq (decide (xs=ys)=true):=Hd (We (CH HL.o fun k hk=>HE.o k (by rw[g6.o];exact hk)));clear HE;go_wp2_with fail;go_ret;exact⟨by rw[HF.o];rfl,HB.o⟩
 ·have g4:((xs.length:Int) != (ys.length:Int))=true:=by simp;omega
  have HF:Hq (decide (xs=ys)=false):=Hd (VU fun e=>g0 (by rw[e]))
  go_enter func22,ntmps22
  go_wp2_with fail;go_ret;exact⟨by rw[HF.o];rfl,VA _ _⟩
theorem La {xs:List Int}(hx:SliceIs W u xs)(hy:SliceIs W v ys)(hl:xs.length<=1000000) :
 Cl 22 #[u,v] W (Bl (.bool (decide (xs=ys))) W):=by
 obtain⟨a,c,rfl,h1,_⟩:=hx;obtain⟨b,d,rfl,h2,_⟩:=hy;exact KZ h1 h2 hl
theorem Q7 {hs:List (List Int)}(hx:AL W u gs)(hy:AL W v hs)(hl:gs.length<=1000000)(hg:∀ g∈gs,g.length<=1000000) :
 Cl 54 #[u,v] W (Bl (.bool (decide (gs=hs))) W):=by
 have HX:=Hd hx;have HY:=Hd hy;have HG:=Hd hg;obtain⟨a,c,rfl,_⟩:=hx.slice;obtain⟨b,d,rfl,_⟩:=hy.slice;clear hx hy hg
 by_cases g0:gs.length=hs.length
 ·have HL:=Hd g0;have g8:((gs.length:Int) != (hs.length:Int))=false:=by rw[g0];simp
  obtain⟨L,hL⟩:=Ex gs.length;have g3:=Hd hL;rw[<- g0] at g8 ⊢;rw[<- hL] at hl g8 ⊢;clear g0 hL
  go_enter func54,ntmps54
  go_wp2_with fail
  go_loopw [4,5] (fun _ s5 wx=>∃ i:Nat,i<=L/\s5=Iv i/\Hq (Bw W wx)/\Hq (∀ j,j<i->gs.getD j []=hs.getD j [])) (fun _ s5 _=>L-(intOf s5).toNat)
  case atStart=>exact⟨0,Vu _,rfl,Hd (VA _ _),Hd fun j hj=>by omega⟩
  case round =>
   obtain⟨i,hi,rfl,HB,HE⟩:=hrel
   by_cases g9:i<L
   ·have gk:(i:Int)<(L:Int):=by omega
    obtain⟨wz,gd⟩:∃ w,w=wr.drew:=⟨_,rfl⟩;have gc:=Hd gd;have g2:Hq (Bw W wz):=Hd (by rw[gd];exact HB.o.trans ((An wr 1).mono HB.o.size));obtain⟨ba,oa,c',a1,c1,ea,x1,g5,_⟩:=(HX.o.below g2.o).elem (i:=i) (by rw[<- g3.o];exact g9);obtain⟨bb,ob,d',b1,d1,eb,y1,g4,_⟩:=(HY.o.below g2.o).elem (i:=i) (by rw[<- HL.o,<- g3.o];exact g9);injection ea with ea _ _
    injection eb with eb _ _
    subst ea eb;have ga:(gs.getD i []).length<=1000000:=by
     have gi:i<gs.length:=by rw[<- g3.o];exact g9
     have e:gs.getD i []=gs[i]:=by simp[List.getD,gi]
     rw[e];exact HG.o _ (Vv _)
    obtain⟨xs,g7⟩:∃ u,u=gs.getD i []:=⟨_,rfl⟩;obtain⟨ys,g6⟩:∃ v,v=hs.getD i []:=⟨_,rfl⟩;rw[<- g7] at x1 g5 ga;rw[<- g6] at y1 g4;have HU:=Hd g7;have ge:=Hd g6;have gf:=Hd (KZ (c:=c1) (d:=d1) g5 g4 ga);have gl:=Hd y1;clear g7 g6 HB g5 g4 ga;go_upto_region 6 with fail;refine AD (fun w':Wd=>(w'.cell? (Aw ba (oa+i))=some (.slice a1 xs.length c1)/\w'.cell? (Aw bb (ob+i))=some (.slice b1 ys.length d1))/\Hq (Bw wz w')) false 10 [(0,false),(1,false),(2,false),(3,false),(4,false),(5,false),(6,false),(7,false),(8,true),(9,false)] (by kernel_rfl) (by kernel_rfl) (by rw[<- gc.o];exact⟨⟨x1,y1⟩,Hd (VA _ _)⟩) ?_;simp only[planned,AC]
    iterate 8
     refine As rfl ?_;apply Exists.intro;refine⟨fun w' hw=>?_,?_⟩
     . obtain⟨⟨h1,h2⟩,_⟩:=hw;go_simp;rfl
     simp only[Ac]
    refine F8 (v:=.bool (decide (xs=ys))) rfl (by go_simp;exact⟨rfl,rfl⟩) (by rw[<- gc.o];exact gf.o.mono fun x w' ⟨q1,q2⟩=>⟨q1,⟨(Cq q2 x1),(Cq q2 y1)⟩,Hd q2⟩) ?_;rintro w3 ⟨-,gh⟩;simp only[Ac]
    iterate 1
     refine As rfl ?_;apply Exists.intro;refine⟨fun w' hw=>?_,?_⟩
     . obtain⟨⟨h1,h2⟩,_⟩:=hw;go_simp;rfl
     simp only[Ac]
    refine Bs ?_;have gg:=Hd (g2.o.trans (gh.o.mono g2.o.size));clear gc x1 y1 gf gh g2
    by_cases g1:xs=ys
    ·rw[We g1];have gj:Hq (∀ j,j<i+1->gs.getD j []=hs.getD j []):=Hd fun j hj=>by
      rcases VB j i with c|c
      . exact HE.o j c
      ·obtain rfl:j=i:=by omega
       rw[<- HU.o,<- ge.o];exact g1
     clear g1 HE;go_wp2_with fail;go_roundw
     case rel=>exact⟨i+1,by omega,by go_num,gg,gj⟩
     case measure=>simp[intOf];omega
    . rw[VU g1];have HF:Hq (decide (gs=hs)=false):=Hd (VU fun e=>g1 (by rw[HU.o,ge.o,e]));clear g1 HE;go_wp2_with fail;go_ret;exact⟨by rw[HF.o];rfl,gg.o⟩
   ·obtain rfl:i=L:=by omega
    have HF:Hq (decide (gs=hs)=true):=Hd (We (WT HL.o fun k h1 h2=>by
     have:=HE.o k (by rw[g3.o];exact h1);simpa [List.getD,h1,h2] using this))
    clear HE;go_wp2_with fail;go_ret;exact⟨by rw[HF.o];rfl,HB.o⟩
 ·have g8:((gs.length:Int) != (hs.length:Int))=true:=by simp;omega
  have HF:Hq (decide (gs=hs)=false):=Hd (VU fun e=>g0 (by rw[e]))
  go_enter func54,ntmps54
  go_wp2_with fail;go_ret;exact⟨by rw[HF.o];rfl,VA _ _⟩
theorem Lb {a:Option Addr}{x:Int}(h:Au W a zs)(hl:zs.length<=1000000) :
 Cl 67 #[.slice a zs.length c,Iv x] W (Sm (Iv (Ar zs x)) W):=by
 have HC:=Hd h;clear h
 go_enter func67,ntmps67
 go_wp2_with fail
 go_loopw [4,5] (fun _ s5 wx=>∃ k:Nat,k<=zs.length/\s5=Iv k/\Hq (W=wx)/\Hq (∀ j,j<k->at0 zs j≠x)) (fun _ s5 _=>zs.length-(intOf s5).toNat)
 case atStart=>exact⟨0,Vu _,rfl,Hd rfl,Hd fun j hj=>by omega⟩
 case round =>
  obtain⟨k,hk,rfl,HW,HR⟩:=hrel;have hw:=HW.o;subst hw;clear HW
  by_cases g1:k<zs.length
  ·have g3:(k:Int)<zs.length:=by omega
   obtain⟨b,off,rfl,g0⟩:=HC.o.cells k g1;obtain⟨y,hy⟩:=Ex (at0 zs k);rw[<- hy] at g0;have HY:=Hd hy;clear hy
   by_cases hx:y=x
   ·have H1:(y == x)=true:=by simpa using hx
    have HF:Hq (Ar zs x=(k:Int)):=Hd (GB g1 (by rw[<- HY.o];exact hx) HR.o);clear hx HR;go_wp2_with fail;go_ret;exact⟨by rw[HF.o];rfl,rfl⟩
   ·have H1:(y == x)=false:=by simpa using hx
    have g2:Hq (∀ j,j<k+1->at0 zs j≠x):=Hd fun j hj=>by
     rcases VB j k with c|c
     . exact HR.o j c
     ·obtain rfl:j=k:=by omega
      rw[<- HY.o];exact hx
    clear hx HR;go_wp2_with fail;go_roundw
    case rel=>exact⟨k+1,by omega,by go_num,by first|exact Hd rfl|exact Hd trivial,g2⟩
    case measure=>simp[intOf];omega
  ·obtain rfl:k=zs.length:=by omega
   have HF:Hq (Ar zs x = -1):=Hd (J4 HR.o);clear HR;go_wp2_with fail;go_ret;exact⟨by rw[HF.o];rfl,rfl⟩
abbrev Yc:=@List.nodup_nil
theorem Lc:∀ zs:List Int,∃ ds:List Int,ds.Nodup/\(∀ x,x∈ds↔x∈zs)/\ds.length<=zs.length/\(¬ zs.Nodup->ds.length<zs.length)
 | []=>⟨[],Yc,fun _=>Iff.rfl,Vo _,fun h=>(h Yc).elim⟩
 | z::t=>by
   obtain⟨ds,h1,h2,h3,h4⟩:=Lc t
   by_cases hz:z∈t
   ·refine⟨ds,h1,fun x=>?_,by simp;omega,fun _=>by simp;omega⟩;rw[h2,VX];constructor
    . exact fun h=>.inr h
    ·rintro(rfl|h)
     . exact hz
     . exact h
   ·refine⟨z::ds,Xm.2 ⟨fun h=>hz ((h2 z).1 h),h1⟩,fun x=>by rw[VX,VX,h2],by simp;omega,fun hn=>?_⟩;have:=h4 fun hh=>hn (Xm.2 ⟨hz,hh⟩)
    simp;omega
theorem Q8 {os:List Int}(hm:∀ x,x∈os↔x∈zs)(hs:os.Pairwise (· < ·)):os.length=zs.length↔zs.Nodup:=by
 have hn:os.Nodup:=hs.imp fun h e=>by omega
 constructor
 ·intro hl;apply Classical.byContradiction;intro hz;obtain⟨ds,h1,h2,h3,h4⟩:=Lc zs;have hp:os.Perm ds:=(XJ hn h1).2 fun x=>(hm x).trans (h2 x).symm
  have:=hp.length_eq;have:=h4 hz;omega
 . exact fun hz=>((XJ hn hz).2 hm).length_eq
theorem Q9 (hl:AL W v gs)(hsm:gs.flatten.length<=1000)(hgl:gs.length<=1000) :
 Cl 15 #[v,Iv (n:Nat)] W fun x w'=>∃ e,x=.returned (Iv e)/\Cg gs n e/\Bw W w':=by
 have HL:=Hd hl;obtain⟨a,c,rfl,_⟩:=hl.slice;clear hl
 go_enter func15,ntmps15
 go_upto_region 2 with fail;obtain⟨w1,g6⟩:∃ w,w=W.alloc (.cells #[] 3):=⟨_,rfl⟩;have gj:Hq (OwnI w1 W.heap.size (.slice (some (Av W.heap.size)) 0 0) []):=Hd (by rw[g6];exact Ec W W.heap.size (Vo _));have gk:Hq (Bw W w1):=Hd (by rw[g6];exact Af _ _);rw[<- g6];clear g6;go_wp2_with fail
 go_loopw [5,6] (fun s5 s6 wr=>∃ i:Nat,i<=gs.length/\s6=Iv i/\Hq (OwnI wr W.heap.size s5 (gs.take i).flatten/\Bw W wr)) (fun _ s6 _=>gs.length-(intOf s6).toNat)
 case atStart=>exact⟨0,Vu _,rfl,Hd ⟨gj.o,gk.o⟩⟩
 case round =>
  clear gj gk;obtain⟨i,hi,rfl,HI⟩:=hrel
  by_cases g9:i<gs.length
  ·have gA:(i:Int)<gs.length:=by omega
   obtain⟨b,off,c',a2,c2,e1,hc,hz,gq⟩:=(HL.o.below HI.o.2).elem g9;injection e1 with e1 _ e3
   subst e1 e3;have g0:=Iy g9;have ga:=Et g9;obtain⟨gi,ge⟩:∃ x,x=gs.getD i []:=⟨_,rfl⟩;rw[<- ge] at hc hz g0 ga;have HZ:=Hd hz;have g2:=Hd g0;have gv:=Hd ga;clear hz g0 ga ge;go_wp2_with (at_builtin;refine Dn rfl _ _ rfl W.heap.size W _ (gs.take i).flatten gi a2 c2 rfl rfl (by exact HI.o.1) (by exact HZ.o) (by have:=g2.o;omega) HI.o.2.size HI.o.2 gq ?_;intro v1 w1 gc gd gw gx);go_roundw
   case rel=>exact⟨i+1,by omega,by go_num,Hd ⟨by rw[gv.o];exact gc,gd⟩⟩
   case measure=>simp[intOf];omega
  ·obtain rfl:i=gs.length:=by omega
   obtain⟨wA,gn⟩:∃ w,w=wr:=⟨_,rfl⟩;subst gn;obtain⟨fl,g0⟩:=Ex gs.flatten;have g5:=HI.o.1;rw[Ix,<- g0] at g5;rw[<- g0] at hsm;have g2:=Hd g0;obtain⟨a6,c6,e6,g7,gp⟩:=g5.sliceIs (by omega);subst e6;have gt:=Hd g7;have HB:=Hd HI.o.2;have gh:=Hd (KX a6 c6 fl wA (by omega) g7);clear g5 g7 g0 gp HI;go_wp2_with fail
   go_loopw [4,7] (fun _ s7 wx=>∃ j:Nat,j<=fl.length/\s7=Iv j/\Hq (wA=wx)/\Hq (∀ x∈fl.take j,0<=x/\x<(n:Int))) (fun _ s7 _=>fl.length-(intOf s7).toNat)
   case atStart=>exact⟨0,Vu _,rfl,Hd rfl,Hd fun x hx=>by simp at hx⟩
   case round =>
    obtain⟨j,hj,rfl,HW,HR⟩:=hrel;have hw:=HW.o;subst hw;clear HW
    by_cases g3:j<fl.length
    ·have gz:(j:Int)<fl.length:=by omega
     obtain⟨b6,o6,ea,gr⟩:=gt.o.cells j g3;subst ea;obtain⟨x,hx⟩:=Ex (at0 fl j);rw[<- hx] at gr;have g8:x∈fl:=by rw[hx,Az g3];exact Vv _
     have HX:=Hd hx;have g1:Hq (x<0\/x>=(n:Int)->Cg gs n 9):=Hd fun hb=>.inl ⟨rfl,KG (by rw[<- g2.o];exact g8) hb⟩
     clear hx g8
     by_cases gm:x<0
     . have HF:=Hd (g1.o (.inl gm));clear g1;go_wp2_with fail;go_ret;exact⟨9,rfl,HF.o,HB.o⟩
     by_cases gl:x>=(n:Int)
     . have HF:=Hd (g1.o (.inr gl));clear g1;go_wp2_with fail;go_ret;exact⟨9,rfl,HF.o,HB.o⟩
     have gu:Hq (∀ x∈fl.take (j+1),0<=x/\x<(n:Int)):=Hd fun y hy=>by
      rw[Vt g3,<- Az g3] at hy;rcases Vy.1 hy with h|h
      . exact HR.o y h
      . rw[VF] at h;rw[h,<- HX.o];omega
     clear g1;go_wp2_with fail;go_roundw
     case rel=>exact⟨j+1,by omega,by go_num,by first|exact Hd rfl|exact Hd trivial,gu⟩
     case measure=>simp[intOf];omega
    ·obtain rfl:j=fl.length:=by omega
     have gg:Hq (InG gs n):=Hd (by have:=HR.o;rw[VI,g2.o] at this;exact this);clear HR;go_wp2_with fail;refine gh.o.mono ?_;rintro y w2 ⟨u,os,rfl,ho,⟨hm,hs⟩,gy,gf⟩;obtain⟨a7,c7,e7,_,_⟩:=ho.sliceIs (by omega);subst e7;have HN:=Hd (Q8 hm hs);have HB2:=Hd (HB.o.trans (gf.mono HB.o.size));clear ho hm hs gf gh
     by_cases g4:os.length=fl.length
     ·have go:((os.length:Int) != (fl.length:Int))=false:=by rw[g4];simp
      have HF:Hq (Cg gs n 0):=Hd (.inr (.inr ⟨rfl,gg.o,by rw[<- g2.o];exact HN.o.1 g4⟩));clear g4;go_wp2_with fail;go_ret;exact⟨0,rfl,HF.o,HB2.o⟩
     ·have go:((os.length:Int) != (fl.length:Int))=true:=by simp;omega
      have HF:Hq (Cg gs n 6):=Hd (.inr (.inl ⟨rfl,gg.o,by rw[<- g2.o];exact fun h=>g4 (HN.o.2 h)⟩));clear g4;go_wp2_with fail;go_ret;exact⟨6,rfl,HF.o,HB2.o⟩
structure NewI (mb gb b6:Nat)(wC:Wd)(ps:List (List Int))(lv:Value)(W:Wd):Prop where
 bel:Bw wC W
 blk:W.heap[gb]?=some (.cells #[Pt mb,lv] 95 (0,0))
 row:∃ xs,OwnC 22 W (gb+1) lv xs/\AW W xs ps/\∀ x∈xs,∀ k,x.ownBlock=some k->k=b6
section
variable {b6:Nat}{wC:Wd}{ps:List (List Int)}
theorem NewI.step (h:NewI mb gb b6 wC ps lv W)(hgb:gb=wC.heap.size)(hb6:b6<gb){y:Value}{g:List Int}(hr:OwnC 22 W (gb+1) lv xs)(hs:AW W xs ps)(hx:∀ x∈xs,∀ k,x.ownBlock=some k->k=b6)(hy:SliceIs W y g)(hyb:∀ k,y.ownBlock=some k->k=b6)
 (h1:OwnC 22 w' (gb+1) v' (xs++[y])) (e1:w'.os=W.os) (e2:w'.tape=W.tape) (e3:w'.output=W.output) (e4:W.heap.size<=w'.heap.size) (hk:BT lv v' W w') (hw:w''=w'.setCell (Aw gb 1) v') :
 NewI mb gb b6 wC (ps++[g]) v' w'':=by
 have g6:gb<W.heap.size:=(Vm.1 h.blk).1;have g3:∀ k,k<=gb->w'.heap[k]?=W.heap[k]?:=fun k g0=>hk.keep k (by omega) (fun e=>by have:=(hr.lt k e.symm).1;omega)
 have g4:w'.heap[gb]?=some (.cells #[Pt mb,lv] 95 (0,0)):=(g3 gb (Vo _)).trans h.blk;have g2:∀ k,k≠gb->w''.heap[k]?=w'.heap[k]?:=fun k g0=>by rw[hw];exact A0 g0 _
 have hs':AW w'' (xs++[y]) (ps++[g]):=by
  have e:∀ k,k=b6->w''.heap[k]?=W.heap[k]?:=fun k g0=>(g2 k (by omega)).trans (g3 k (by omega))
  exact(hs.same fun x g1 k g0=>e k (hx x g1 k g0)).snoc (hy.same fun k g0=>e k (hyb k g0))
 refine⟨?_,?_,xs++[y],?_,hs',?_⟩
 . have g5:Bw wC w':=⟨e1.trans h.bel.os,e2.trans h.bel.tape,e3.trans h.bel.output,Vx h.bel.size e4,fun k g0=>(g3 k (by omega)).trans (h.bel.block k g0)⟩;rw[hw];exact g5.setCell (by dsimp only;omega) _
 . rw[hw];exact A5 g4 _
 . exact h1.same fun k g0=>g2 k (by have:=(h1.lt k g0).1;omega)
 ·intro x g1 k g0;rcases Vy.1 g1 with h3|h3
  . exact hx x h3 k g0
  . rw[VF] at h3;subst h3;exact hyb k g0
end
structure GrM (base mb gb:Nat)(lv:Value)(gs:List (List Int))(W:Wd):Prop where
 blk:W.heap[gb]?=some (.cells #[Pt mb,lv] 95 (0,0))
 lo:base<=gb
 row:∃ xs,OwnC 22 W base lv xs/\AW W xs gs/\∀ x∈xs,∀ k,x.ownBlock=some k->base<=k/\k<W.heap.size
def BD (fl:List Int)(i n:Nat):List Bool:=(List.range n).map fun(v:Nat)=>decide ((v:Int)∈fl.take i)
theorem Ld (fl:List Int)(i n:Nat):(BD fl i n).length=n:=by simp[BD]
theorem Le {v:Nat}(hv:v<n):(BD fl i n).getD v false=decide ((v:Int)∈fl.take i):=by simp[BD,List.getD,hv]
theorem QA (fl:List Int)(n:Nat):A8 (BD fl 0 n)=List.replicate n (.bool false):=by
 refine WT (by simp[BD,A8]) fun j h1 h2=>?_
 simp[BD,A8]
theorem Gd (hi:i<fl.length):fl.take (i+1)=fl.take i++[at0 fl i]:=by rw[Vt hi,Az hi]
theorem QB {v:Nat}(hi:i<fl.length)(hv:at0 fl i=(v:Int))(hvn:v<n):(BD fl i n).set v true=BD fl (i+1) n:=by
 refine WT (by simp[BD]) fun j h1 h2=>?_
 have hj:j<n:=by simpa [BD] using h2
 rw[List.getElem_set];simp only[BD,XN,List.getElem_range,Gd hi,Vy,VF,hv]
 by_cases e:v=j
 . subst e;simp
 ·rw[Vn e];simp only[decide_eq_decide];constructor
  . exact fun h=>.inl h
  ·rintro(h|h)
   . exact h
   . omega
theorem QC (hi:i<fl.length)(h:(fl.take i).Nodup)(hn:at0 fl i∉fl.take i):(fl.take (i+1)).Nodup:=by
 rw[Gd hi];refine Wg.2 ⟨h,by simp,fun a ha b hb e=>?_⟩;rw[VF] at hb;subst hb;subst e;exact hn ha
theorem QD (hi:i<fl.length)(hn:at0 fl i∈fl.take i):¬ fl.Nodup:=fun h=>by
 have h1:(fl.take (i+1)).Nodup:=List.Nodup.sublist (List.take_sublist _ _) h;rw[Gd hi] at h1;exact(Wg.1 h1).2.2 _ hn _ (by simp) rfl
abbrev XD:=@List.length_pos_of_mem
theorem QE (hn:1<=n):0<(fl++AB fl n).length:=by
 by_cases h:((0:Nat):Int)∈fl
 . have:=XD h;simp only[Vr];omega
 . have h1:Int.ofNat 0∈AB fl n:=Vz.2 ⟨0,WD.2 ⟨Xb.2 (by omega),by simpa using h⟩,rfl⟩;have:=XD h1;simp only[Vr];omega
theorem Lf {b:Nat}{L:List Int}(h:Au W (some (Av b)) L)(hk:lo+k<=L.length):SliceIs W (.slice (some ⟨b,if k=0 then 0 else lo,none⟩) k k) ((L.drop lo).take k):=by
 have hl:((L.drop lo).take k).length=k:=by rw[VQ,XL];omega
 refine⟨_,k,by rw[hl],⟨by have:=h.len;omega,fun j hj=>?_⟩,fun e=>by cases e⟩;rw[hl] at hj;refine⟨b,if k=0 then 0 else lo,rfl,?_⟩;rw[Vn (by omega)];obtain⟨b',o',e,hc⟩:=h.cells (lo+j) (by omega);injection e with e
 injection e with e1 e2 _
 subst e1 e2;rw[VJ] at hc;rw[hc];congr 2;unfold at0;simp[List.getD,XB,XC,hj]
theorem QG (b l c lo hi:Nat)(h1:lo<=hi)(h2:hi<=c)(w:Wd):(Instr.sliceAt 22 (.slice (some (Av b)) l c) (some (Iv lo)) (some (Iv hi)) (some (Iv hi))).run prog w=.ok (.slice (some ⟨b,if hi-lo=0 then 0 else lo,none⟩) (hi-lo) (hi-lo)) w:=by
 have e1:(0:Int)<=hi/\(hi:Int)<=c:=by omega
 have e2:(0:Int)<=hi/\(hi:Int)<=hi:=by omega
 have e3:(0:Int)<=lo/\(lo:Int)<=hi:=by omega
 simp only[Instr.sliceAt,Instr.slice];go_simp
 by_cases e:hi=lo
 . rw[Vs e,Vs (by omega)]
 . rw[Vn e,Vn (by omega)]
theorem I7 (b l c lo k:Nat){z:Int}(hz:z=((lo+k:Nat):Int))(h2:lo+k<=c)(w:Wd):(Instr.sliceAt 22 (.slice (some (Av b)) l c) (some (Iv lo)) (some (Iv z)) (some (Iv z))).run prog w=.ok (.slice (some ⟨b,if k=0 then 0 else lo,none⟩) k k) w:=by
 subst hz;rw[QG b l c lo (lo+k) (by omega) h2 w];rw[show lo+k-lo=k by omega]
theorem Lg:(prog.info? 27).map (fun i=>i.size)=some 1:=by kernel_rfl
theorem I8 {o:Oper}{t:TypeId}{x lo hi mx:Operand}(ho:o.op=.slice t x (some lo) (some hi) (some mx))(hr:(Instr.sliceAt t (a.eval x) (some (a.eval lo)) (some (a.eval hi)) (some (a.eval mx))).run P w=.ok v w):(execOp a.eval o).run P w=.ok (.value v) w:=by
 unfold execOp;simp[ho,hr]
theorem NewI.below {mb gb b6:Nat}{wC W w':Wd}{ps:List (List Int)}{lv:Value}(h:NewI mb gb b6 wC ps lv W)(hb:Bw W w'):NewI mb gb b6 wC ps lv w':=by
 obtain⟨h1,h2,xs,h3,h4,h5⟩:=h;exact⟨h1.trans (hb.mono h1.size),(hb.block _ (Vm.1 h2).1).trans h2,xs,h3.below hb,h4.below hb,h5⟩
abbrev Wq:=@IntWalk.i64_in
abbrev XR:=@Nat.le_add_right
theorem Lh (hV:∀ W',Bw W W'->Cl 62 #[Pt mb] W' (Sm (Iv (n:Nat)) W'))(hl:AL W v gs)(hsm:gs.flatten.length<=1000)(hgl:gs.length<=1000)(hn:n<=64)(hn1:1<=n) :
 Cl 18 #[Pt mb,v] W fun x w'=>Bw W w'/\∃ e,Cg gs n e/\((e≠0/\x=.returned (.tuple #[.pointer none,Iv e]))\/(e=0/\∃ gb lv,x=.returned (.tuple #[Pt gb,Iv 0])/\GrM W.heap.size mb gb lv (AY gs n) w')):=by
 have HV:=Hd hV;have HL:=Hd hl;obtain⟨a,c,rfl,hJ⟩:=hl.slice;obtain⟨PP,gG⟩:=Ex (fun x w'=>Bw W w'/\∃ e,Cg gs n e/\((e≠0/\x=.returned (.tuple #[.pointer none,Iv e]))\/(e=0/\∃ gb lv,x=.returned (.tuple #[Pt gb,Iv 0])/\GrM W.heap.size mb gb lv (AY gs n) w')):Ending->Wd->Prop)
 have hB:Hq (∀ e w',Cg gs n e->e≠0->Bw W w'->PP (.returned (.tuple #[.pointer none,Iv e])) w'):=Hd (by rw[gG];exact fun e w' h1 h2 h3=>⟨h3,e,h1,.inl ⟨h2,rfl⟩⟩);have k9:Hq (∀ gb lv w',Cg gs n 0->Bw W w'->GrM W.heap.size mb gb lv (AY gs n) w'->PP (.returned (.tuple #[Pt gb,Iv 0])) w'):=Hd (by rw[gG];exact fun gb lv w' h1 h2 h3=>⟨h2,0,h1,.inr ⟨rfl,gb,lv,rfl,h3⟩⟩);rw[<- gG];clear hV hl hJ gG
 go_enter func18,ntmps18
 go_wp2_with fail
 go_loopw [6,8,23] (fun s6 _ s23 wr=>∃ i:Nat,i<=gs.length/\s23=Iv i/\Hq (OwnI wr W.heap.size s6 (gs.take i).flatten/\Bw W wr)) (fun _ _ s23 _=>gs.length-(intOf s23).toNat)
 case atStart=>exact⟨0,Vu _,rfl,Hd ⟨DB _ _,VA _ _⟩⟩
 case round =>
  obtain⟨i,hi,rfl,HI⟩:=hrel
  by_cases gO:i<gs.length
  ·have hZ:(i:Int)<gs.length:=by omega
   obtain⟨b,off,c',a2,c2,e1,hc,hz,he⟩:=(HL.o.below HI.o.2).elem gO;injection e1 with e1 _ e3
   subst e1 e3;have ge:=Iy gO;have gn:=Et gO;obtain⟨gi,gm⟩:∃ x,x=gs.getD i []:=⟨_,rfl⟩;rw[<- gm] at hc hz ge gn;have HZ:=Hd hz;have g9:=Hd ge;have h5:=Hd gn;clear hz ge gn gm;go_wp2_with (at_builtin;refine Dn rfl _ _ rfl W.heap.size W _ (gs.take i).flatten gi a2 c2 rfl rfl (by exact HI.o.1) (by exact HZ.o) (by have:=g9.o;omega) HI.o.2.size HI.o.2 he ?_;intro v1 w1 gf h9 kd ke);go_roundw
   case rel=>exact⟨i+1,by omega,by go_num,Hd ⟨by rw[h5.o];exact gf,h9⟩⟩
   case measure=>simp[intOf];omega
  ·obtain rfl:i=gs.length:=by omega
   obtain⟨wA,hS⟩:∃ w,w=wr:=⟨_,rfl⟩;subst hS;obtain⟨fl,ge⟩:=Ex gs.flatten;have g6:=HI.o.1;rw[Ix,<- ge] at g6;rw[<- ge] at hsm;have g9:=Hd ge;obtain⟨a6,c6,e6,hd,hW⟩:=g6.sliceIs (by omega);subst e6;have HO:=Hd g6;have hr:=Hd hd;have HB:=Hd HI.o.2;have hA:=Hd (HV.o wA HI.o.2);clear g6 hd ge hW HI;go_wp2_with fail;refine hA.o.mono ?_;rintro x w' ⟨rfl,rfl⟩;clear hA;go_wp2_with (at_make;refine KB CK rfl _ _ rfl wA.heap.size wA _ n rfl rfl rfl (by omega) (Vo _) (VA _ _) ?_;intro g w1 gf gF hs1 hX hg k0;clear k0);have hI:=Hd (HB.o.trans (gF.mono HB.o.size));have h8:=Hd gF;have hu:=Hd (hr.o.below gF);have HM:Hq (OwnB w1 wA.heap.size (.slice (some (Av g)) n n) (BD fl 0 n)):=Hd (by unfold OwnB;rw[QA];exact gf);have HG:=Hd hg;clear gf gF hs1 hX hg;go_wp2_with fail
   go_loopw [4,5,11,36] (fun _ _ _ s36 wx=>∃ i:Nat,i<=fl.length/\s36=Iv i/\Hq (w1=wx)/\Hq (∀ x∈fl.take i,0<=x/\x<(n:Int))) (fun _ _ _ s36 _=>fl.length-(intOf s36).toNat)
   case atStart=>exact⟨0,Vu _,rfl,Hd rfl,Hd fun x hx=>by simp at hx⟩
   case round =>
    obtain⟨j,hj,rfl,HW,HR⟩:=hrel;have hw:=HW.o;subst hw;clear HW
    by_cases gB:j<fl.length
    ·have hY:(j:Int)<fl.length:=by omega
     obtain⟨b6,o6,ea,gP⟩:=hu.o.cells j gB;subst ea;obtain⟨x,hx⟩:=Ex (at0 fl j);rw[<- hx] at gP;have gM:x∈fl:=by rw[hx,Az gB];exact Vv _
     have HX:=Hd hx;have gp:Hq (x<0\/x>=(n:Int)->PP (.returned (.tuple #[.pointer none,Iv 9])) w1):=Hd fun hb=>hB.o 9 w1 (.inl ⟨rfl,KG (by rw[<- g9.o];exact gM) hb⟩) (by decide) hI.o
     clear hx gM
     by_cases hP:x<0
     . have HF:=Hd (gp.o (.inl hP));clear gp;go_wp2_with fail;exact HF.o
     by_cases gh:x>=(n:Int)
     . have HF:=Hd (gp.o (.inr gh));clear gp;go_wp2_with fail;exact HF.o
     have k7:Hq (∀ x∈fl.take (j+1),0<=x/\x<(n:Int)):=Hd fun y hy=>by
      rw[Gd gB] at hy;rcases Vy.1 hy with h|h
      . exact HR.o y h
      . rw[VF] at h;rw[h,<- HX.o];omega
     clear gp;go_wp2_with fail;go_roundw
     case rel=>exact⟨j+1,by omega,by go_num,by first|exact Hd rfl|exact Hd trivial,k7⟩
     case measure=>simp[intOf];omega
    ·obtain rfl:j=fl.length:=by omega
     have gX:Hq (∀ x∈fl,0<=x/\x<(n:Int)):=Hd (by have:=HR.o;rwa [VI] at this);clear HR;go_wp2_with fail
     go_loopw [4,5,13,51] (fun _ _ _ s51 wx=>∃ i:Nat,i<=fl.length/\s51=Iv i/\Hq (OwnB wx wA.heap.size (.slice (some (Av g)) n n) (BD fl i n))/\Hq (Bw wA wx)/\Hq (fl.take i).Nodup) (fun _ _ _ s51 _=>fl.length-(intOf s51).toNat)
     case atStart=>exact⟨0,Vu _,rfl,HM,h8,Hd (by simp)⟩
     case round =>
      clear HM hu hI h8;obtain⟨j,hj,rfl,HM,gx,gY⟩:=hrel;have h7:=Hd (HB.o.trans (gx.o.mono HB.o.size))
      by_cases gl:j<fl.length
      ·have hY:(j:Int)<fl.length:=by omega
       obtain⟨b6,o6,ea,gP⟩:=(hr.o.below gx.o).cells j gl;subst ea;obtain⟨q1,q2⟩:=gX.o (at0 fl j) (by rw[Az gl];exact Vv _);obtain⟨x,hx⟩:∃ x:Nat,at0 fl j=(x:Int):=⟨(at0 fl j).toNat,by omega⟩;rw[hx] at gP;have gJ:x<n:=by omega
       have kh:(x:Int)<(n:Int):=by omega
       have q0:=HM.o.cellB x (by rw[Ld];exact gJ);have p0:=HM.o.frozen x;rw[Le gJ] at q0;obtain⟨bb,gQ⟩:∃ b,b=decide ((x:Int)∈fl.take j):=⟨_,rfl⟩;rw[<- gQ] at q0;have HX:=Hd hx;have hH:=Hd gQ;clear hx gQ q1 q2;cases bb with
       | true =>
         have HF:=Hd (hB.o 6 wr (.inr (.inl ⟨rfl,by unfold InG;rw[<- g9.o];exact gX.o,by
          rw[<- g9.o];refine QD gl ?_;rw[HX.o];exact Ya hH.o.symm⟩)) (by decide) h7.o)
         go_wp2_with fail;exact HF.o
       | false =>
         have kb:Hq (OwnB (wr.setCell (Aw g x) (.bool true)) wA.heap.size (.slice (some (Av g)) n n) (BD fl (j+1) n)):=Hd (by rw[<- QB gl HX.o gJ];exact HM.o.setB x true);have hO:Hq (Bw wA (wr.setCell (Aw g x) (.bool true))):=Hd (gx.o.setCell HG.o _);have gE:Hq (fl.take (j+1)).Nodup:=Hd (QC gl gY.o (by rw[HX.o];exact of_decide_eq_false hH.o.symm));go_wp2_with fail;go_roundw
         case rel=>exact⟨j+1,by omega,by go_num,kb,hO,gE⟩
         case measure=>simp[intOf];omega
      ·obtain rfl:j=fl.length:=by omega
       have hh:(Value.slice a6 fl.length c6).ownBlock≠some g:=fun e=>by have h2:=(HO.o.lt g e).2;have h3:=HG.o;omega
       have hE:Hq (OwnB wr wA.heap.size (.slice (some (Av g)) n n) (BD fl fl.length n)):=HM;have gE:Hq fl.Nodup:=Hd (by have:=gY.o;rwa [VI] at this);have hC:=Hd (HO.o.below gx.o);have hG:=Hd hh;have HSZ:=Hd gx.o.size;obtain⟨wB,hR⟩:∃ w,w=wr:=⟨_,rfl⟩;subst hR;clear HM gY gx hh;go_wp2_with fail
       go_loopw [6,14,15,65] (fun s6 _ _ s65 wx=>∃ k:Nat,k<=n/\s65=Iv k/\Hq (OwnI wx W.heap.size s6 (fl++AB fl k))/\Hq (OwnB wx wA.heap.size (.slice (some (Av g)) n n) (BD fl fl.length n))/\Hq (Bw W wx)/\Hq (s6.ownBlock≠some g)) (fun _ _ _ s65 _=>n-(intOf s65).toNat)
       case atStart=>exact⟨0,Vu _,rfl,by rw[show AB fl 0=[] from rfl,WM];exact hC,hE,h7,hG⟩
       case round =>
        clear hE hC h7 hG;obtain⟨k,hk,rfl,gu,gw,ga,gA⟩:=hrel
        by_cases gN:k<n
        ·have kl:(k:Int)<(n:Int):=by omega
         have q0:=gw.o.cellB k (by rw[Ld];exact gN);rw[Le gN,VI] at q0;have kk:=Eu fl k
         by_cases gt:(k:Int)∈fl
         ·rw[We gt] at q0;have gD:Hq (OwnI wr W.heap.size u6 (fl++AB fl (k+1))):=Hd (by rw[KH gt];exact gu.o);clear gt gu;go_wp2_with fail;go_roundw
          case rel=>exact⟨k+1,by omega,by go_num,gD,gw,ga,gA⟩
          case measure=>simp[intOf];omega
         ·rw[VU gt] at q0;have ka:=Hd (KI gt);clear gt;go_wp2_with (at_builtin;refine CQ wr rfl _ _ rfl W.heap.size W _ (fl++AB fl k) (k:Int) rfl rfl rfl (by simp) (by exact gu.o) (by rw[Vr];omega) ga.o.size ga.o ?_;intro v5 w5 g5 ho hT g8);have gD:Hq (OwnI w5 W.heap.size v5 (fl++AB fl (k+1))):=Hd (by rw[ka.o,<- VC];exact g5)
          have hM:Hq (OwnB w5 wA.heap.size (.slice (some (Av g)) n n) (BD fl fl.length n)):=Hd (gw.o.keep g8.keep (fun b hb e=>by
           injection hb with hb
           subst hb;exact gA.o e.symm))
          have hK:Hq (v5.ownBlock≠some g):=Hd (g8.ne gA.o (gw.o.lt g rfl).2);have hN:=Hd ho;clear g5 ho hT g8 gu gw gA ga;go_roundw
          case rel=>exact⟨k+1,by omega,by go_num,gD,hM,hN,hK⟩
          case measure=>simp[intOf];omega
        ·obtain rfl:k=n:=by omega
         obtain⟨wC,hQ⟩:∃ w,w=wr:=⟨_,rfl⟩;subst hQ;obtain⟨L,hL⟩:=Ex (fl++AB fl k);have g6:=gu.o;have gR:=QE (fl:=fl) hn1;have kn:L.length<=1064:=by have:=Eu fl k;rw[hL,Vr];omega
         rw[<- hL] at g6 gR;rcases g6.2 with ⟨_,h0⟩|⟨b6,c7,cur,e7,hm,hf,kg,_⟩
         . omega
         subst e7;have gk:b6<wC.heap.size:=(Vm.1 hf).1;have ha:Au wC (some (Av b6)) L:=G9 (by omega) g6;have hq:=Hd ha;have h4:=Hd hL;have gH:=Hd (show W.heap.size<=b6/\b6<wC.heap.size from ⟨hm,gk⟩);have kf:fl.length<=L.length:=by rw[hL,Vr];omega
         obtain⟨wD,gK⟩:∃ w,w=wC.alloc (.cells #[Pt mb,.slice none 0 0] 95):=⟨_,rfl⟩;have k3:Hq (_=wD):=Hd gK.symm
         have gv:Hq (NewI mb wC.heap.size b6 wC [] (.slice none 0 0) wD):=Hd (by
          rw[gK];exact⟨Af _ _,Vq _ _,[],Iw _ _ _,AW.nil _,fun x hx=>by simp at hx⟩)
         clear g6 ha hL hf hm gk gK gu gw gA;go_upto_region 30 with fail;rw[k3.o];go_wp2_with fail
         go_loopw [16,18,82] (fun s16 _ s82 wx=>∃ i:Nat,i<=gs.length/\s82=Iv i/\(∃ p:Nat,s16=Iv p/\Hq (p=(gs.take i).flatten.length))/\Hq (∃ lv,NewI mb wC.heap.size b6 wC (gs.take i) lv wx)) (fun _ _ s82 _=>gs.length-(intOf s82).toNat)
         case atStart=>exact⟨0,Vu _,rfl,⟨0,rfl,Hd (by simp)⟩,Hd ⟨_,gv.o⟩⟩
         case round =>
          clear gv;obtain⟨i,hi,rfl,⟨p,rfl,HP⟩,HI⟩:=hrel
          by_cases gd:i<gs.length
          ·have hZ:(i:Int)<gs.length:=by omega
           obtain⟨lv,g7⟩:=HI.o;have g0:=g7.below (An wr 1);obtain⟨b,off,c',a2,c2,e1,hc,hz,he⟩:=(HL.o.below (ga.o.trans (g7.bel.mono ga.o.size))).elem gd;injection e1 with e1 _ e3
           subst e1 e3;have gC:=Iy gd;have gn:=Et gd;obtain⟨gi,gm⟩:∃ x,x=gs.getD i []:=⟨_,rfl⟩;rw[<- gm] at hc hz gC gn;rw[<- HP.o,<- g9.o] at gC;have gr:p+gi.length<=c7:=by omega
           have h6:Hq ((L.drop p).take gi.length=gi):=Hd (by
            have e:L=(gs.take i).flatten++(gi++(gs.drop (i+1)).flatten++AB fl k):=by
             rw[h4.o,g9.o,gm,<- VC,<- VC,<- Et gd,<- List.flatten_append,Wy]
            rw[e,HP.o,List.drop_left,VC,List.take_left])
           have h5:=Hd gn;have kc:=Hd gm;have gq:(p:Int)+gi.length=((p+gi.length:Nat):Int):=by omega
           have HY:=Hd (Lf (hq.o.below (g0.bel.trans (VA _ _))) (lo:=p) (k:=gi.length) (by omega));obtain⟨q0,q1,fz⟩:=cells2 g0.blk;have gv:=Hd g0;obtain⟨xs,gh,gg,gz⟩:=g0.row;have go:=Hd gh;have gU:=Hd gg;have gT:=Hd gz;have gy:wC.heap.size<wr.drew.heap.size:=(Vm.1 g0.blk).1;have gS:Hq (xs.length<=1000):=Hd (by have:=gg.len;rw[VQ] at this;omega);obtain⟨yo,hy⟩:=Ex (some ⟨b6,if gi.length=0 then 0 else p,none⟩:Option Addr);rw[h6.o] at HY;have gV:Hq (∀ w:Wd,(Instr.sliceAt 22 (.slice (some (Av b6)) L.length c7) (some (Iv p)) (some (Iv (IntKind.i64.wrap ((p:Int)+gi.length)))) (some (Iv (IntKind.i64.wrap ((p:Int)+gi.length))))).run prog w=.ok (.slice yo gi.length gi.length) w):=Hd fun w=>by rw[hy];exact I7 b6 L.length c7 p gi.length (by rw[Wq _ (by omega)];exact gq) gr w
           have gI:Hq ((Value.slice yo gi.length gi.length).ownBlock=some b6):=Hd (by rw[hy];rfl);rw[<- hy] at HY;have hU:p+gi.length<=1064:=by omega
           clear g7 g0 hz gC gn gm gh gg gz hy HI gq gr gR;go_upto_region 34 with fail;clear hc;refine AD (fun w':Wd=>w'.cell? (Aw wC.heap.size 1)=some lv/\True) true 20 [(0,false),(1,false),(2,false),(3,false),(4,false),(5,false),(6,false),(7,false),(8,false),(9,false),(10,false),(11,false),(12,false),(13,false),(14,false),(15,false),(16,true),(17,true),(18,false),(19,false),(20,true)] (by kernel_rfl) (by kernel_rfl) ⟨q1,trivial⟩ ?_;simp only[planned,AC]
           iterate 15
            refine As rfl ?_;apply Exists.intro;refine⟨fun w' hw=>?_,?_⟩
            . obtain⟨h1,_⟩:=hw;go_simp;rfl
            simp only[Ac]
           refine As rfl ⟨.slice yo gi.length gi.length,fun w' hw=>?_,?_⟩
           . exact I8 rfl (gV.o w')
           simp only[Ac];refine Ds rfl (w':=wr.drew.alloc (.cells #[.slice yo gi.length gi.length] 22)) (v:=.slice (some (Av wr.drew.heap.size)) 1 1) (by go_simp) ⟨((Af wr.drew _).cell (p:=Aw wC.heap.size 1) gy).trans q1,trivial⟩ ?_;simp only[Ac];refine I6 rfl ?_;refine BC ET wr.drew rfl _ _ rfl (wC.heap.size+1) lv xs (.slice yo gi.length gi.length) rfl rfl rfl rfl rfl (by exact go.o) (by have:=gS.o;omega) (by omega) ?_;intro v5 w5 g5 g1 g2 g3 g4 g8;obtain⟨w6,gj⟩:∃ w,w=w5.setCell (Aw wC.heap.size 1) v5:=⟨_,rfl⟩
           have gZ:Hq (NewI mb wC.heap.size b6 wC (gs.take (i+1)) v5 w6):=Hd (by
            have e:gs.take (i+1)=gs.take i++[gi]:=by rw[Vt gd,kc.o];simp[List.getD,gd]
            rw[e];exact NewI.step gv.o rfl gH.o.2 go.o gU.o gT.o HY.o (fun k hk=>by rw[gI.o] at hk;injection hk with hk;exact hk.symm) g5 g1 g2 g3 g4 g8 gj)
           have gc:=g8.keep wC.heap.size gy (fun e=>by have:=(go.o.lt _ e.symm).1;omega);have q1':=(Wm (w:=wr.drew) (w':=w5) (a:=Aw wC.heap.size 1) gc).trans q1;have fz':=(World.frozen?_of_block (w:=wr.drew) (w':=w5) (a:=Aw wC.heap.size 1) gc).trans (fz 1);refine⟨rfl,⟨q1',trivial⟩,?_⟩;simp only[Ac]
           iterate 2
            refine As rfl ?_;apply Exists.intro;refine⟨fun w' hw=>?_,?_⟩
            . obtain⟨h1,_⟩:=hw;go_simp;rfl
            simp only[Ac]
           obtain⟨a5,k5,ev5,_⟩:=g5.slice;refine DJ (w':=w6) rfl rfl (by rw[gj];exact DI Lg q1' fz' (by rw[ev5];rfl) (by rw[ev5];rfl)) ?_;clear q0 q1 q1' fz fz' gc g5 g1 g2 g3 g4 g8 gj ev5;go_wp2_with fail;go_roundw
           case rel=>exact⟨i+1,by omega,by go_num,⟨p+gi.length,by go_num,Hd (by rw[h5.o,Vr,<- HP.o])⟩,Hd ⟨_,gZ.o⟩⟩
           case measure=>simp[intOf];omega
          ·obtain rfl:i=gs.length:=by omega
           have gL:p=fl.length:=by rw[HP.o,Ix,g9.o]
           subst gL
           have hD:Hq (∃ lv,NewI mb wC.heap.size b6 wC (gs++((AB fl k).take 0).map fun v=>[v]) lv wr):=Hd (by
            obtain⟨lv,h⟩:=HI.o;rw[VI] at h;exact⟨lv,by rw[XZ,XM,WM];exact h⟩)
           have hF:Hq (L.length=fl.length+(AB fl k).length):=Hd (by rw[h4.o,Vr]);clear HI HP;go_wp2_with fail
           go_loopw [16] (fun s16 wx=>∃ t:Nat,t<=(AB fl k).length/\s16=Iv ((fl.length+t:Nat):Int)/\Hq (∃ lv,NewI mb wC.heap.size b6 wC (gs++((AB fl k).take t).map fun v=>[v]) lv wx)) (fun s16 _=>L.length-(intOf s16).toNat)
           case atStart=>exact⟨0,Vu _,rfl,hD⟩
           case round =>
            clear hD;obtain⟨t,ht,rfl,HI⟩:=hrel;obtain⟨p,hp⟩:=Ex (fl.length+t);rw[<- hp]
            by_cases gk:t<(AB fl k).length
            ·have kj:p<L.length:=by rw[hF.o];omega
             have ki:(p:Int)<L.length:=by omega
             obtain⟨lv,g7⟩:=HI.o;have g0:=g7.below (An wr 1);have gr:p+1<=c7:=by omega
             obtain⟨x,hx⟩:=Ex ((AB fl k)[t])
             have h6:Hq ((L.drop p).take 1=[x]):=Hd (by
              rw[h4.o,hp,List.drop_append,WL (XR _ _),Wz,Nat.add_sub_cancel_left,VT gk,List.take_succ_cons,XZ,hx])
             have k4:Hq ((AB fl k).take (t+1)=(AB fl k).take t++[x]):=Hd (by rw[Vt gk,hx]);have gq:(p:Int)+1=((p+1:Nat):Int):=by omega
             have HY:=Hd (Lf (hq.o.below g0.bel) (lo:=p) (k:=1) (by omega));rw[h6.o] at HY;obtain⟨q0,q1,fz⟩:=cells2 g0.blk;have gv:=Hd g0;obtain⟨xs,gh,gg,gz⟩:=g0.row;have go:=Hd gh;have gU:=Hd gg;have gT:=Hd gz;have gy:wC.heap.size<wr.drew.heap.size:=(Vm.1 g0.blk).1;have gS:Hq (xs.length<=2000):=Hd (by have h1:=gg.len;have:=Eu fl k;rw[Vr,Vw,VQ] at h1;omega);obtain⟨yo,hy⟩:=Ex (some ⟨b6,if 1=0 then 0 else p,none⟩:Option Addr);have gV:Hq (∀ w:Wd,(Instr.sliceAt 22 (.slice (some (Av b6)) L.length c7) (some (Iv p)) (some (Iv ((p:Int)+1))) (some (Iv ((p:Int)+1)))).run prog w=.ok (.slice yo 1 1) w):=Hd fun w=>by rw[hy];exact I7 b6 L.length c7 p 1 gq gr w
             have k6:Hq (∀ w:Wd,(Instr.sliceAt 22 (.slice (some (Av b6)) L.length c7) (some (Iv p)) (some (Iv (IntKind.i64.wrap ((p:Int)+1)))) (some (Iv (IntKind.i64.wrap ((p:Int)+1))))).run prog w=.ok (.slice yo 1 1) w):=Hd fun w=>by rw[hy];exact I7 b6 L.length c7 p 1 (by rw[Wq _ (by omega)];exact gq) gr w
             have gI:Hq ((Value.slice yo 1 1).ownBlock=some b6):=Hd (by rw[hy];rfl);rw[<- hy] at HY;have hU:p+1<=1064:=by omega
             have k8:=Hd hp;clear g7 g0 gh gg gz hy HI gq gr gR hx hp;go_upto_region 39 with fail;refine AD (fun w':Wd=>w'.cell? (Aw wC.heap.size 1)=some lv/\True) true 16 [(0,false),(1,false),(2,false),(3,false),(4,false),(5,false),(6,false),(7,false),(8,false),(9,false),(10,false),(11,false),(12,true),(13,true),(14,false),(15,false),(16,true)] (by kernel_rfl) (by kernel_rfl) ⟨q1,trivial⟩ ?_;simp only[planned,AC]
             iterate 11
              refine As rfl ?_;apply Exists.intro;refine⟨fun w' hw=>?_,?_⟩
              . obtain⟨h1,_⟩:=hw;go_simp;rfl
              simp only[Ac]
             refine As rfl ⟨.slice yo 1 1,fun w' hw=>?_,?_⟩
             . first|exact I8 rfl (gV.o w')|exact I8 rfl (k6.o w')
             simp only[Ac];refine Ds rfl (w':=wr.drew.alloc (.cells #[.slice yo 1 1] 22)) (v:=.slice (some (Av wr.drew.heap.size)) 1 1) (by go_simp) ⟨((Af wr.drew _).cell (p:=Aw wC.heap.size 1) gy).trans q1,trivial⟩ ?_;simp only[Ac];refine I6 rfl ?_;refine BC ET wr.drew rfl _ _ rfl (wC.heap.size+1) lv xs (.slice yo 1 1) rfl rfl rfl rfl rfl (by exact go.o) (by have:=gS.o;omega) (by omega) ?_;intro v5 w5 g5 g1 g2 g3 g4 g8;obtain⟨w6,gj⟩:∃ w,w=w5.setCell (Aw wC.heap.size 1) v5:=⟨_,rfl⟩
             have gZ:Hq (NewI mb wC.heap.size b6 wC (gs++((AB fl k).take (t+1)).map fun v=>[v]) v5 w6):=Hd (by
              rw[k4.o,VK,<- VC];exact NewI.step gv.o rfl gH.o.2 go.o gU.o gT.o HY.o (fun k hk=>by rw[gI.o] at hk;injection hk with hk;exact hk.symm) g5 g1 g2 g3 g4 g8 gj)
             have gc:=g8.keep wC.heap.size gy (fun e=>by have:=(go.o.lt _ e.symm).1;omega);have q1':=(Wm (w:=wr.drew) (w':=w5) (a:=Aw wC.heap.size 1) gc).trans q1;have fz':=(World.frozen?_of_block (w:=wr.drew) (w':=w5) (a:=Aw wC.heap.size 1) gc).trans (fz 1);refine⟨rfl,⟨q1',trivial⟩,?_⟩;simp only[Ac]
             iterate 2
              refine As rfl ?_;apply Exists.intro;refine⟨fun w' hw=>?_,?_⟩
              . obtain⟨h1,_⟩:=hw;go_simp;rfl
              simp only[Ac]
             obtain⟨a5,k5,ev5,_⟩:=g5.slice;refine DJ (w':=w6) rfl rfl (by rw[gj];exact DI Lg q1' fz' (by rw[ev5];rfl) (by rw[ev5];rfl)) ?_;clear q0 q1 q1' fz fz' gc g5 g1 g2 g3 g4 g8 gj ev5;go_wp2_with fail;go_roundw
             case rel=>exact⟨t+1,by omega,by rw[k8.o];go_num,Hd ⟨_,gZ.o⟩⟩
             case measure=>simp[intOf];omega
            ·obtain rfl:t=(AB fl k).length:=by omega
             have gL:p=L.length:=by rw[hp,hF.o]
             subst gL;obtain⟨lv,g7⟩:=HI.o
             have HF:=Hd (k9.o wC.heap.size lv wr (.inr (.inr ⟨rfl,by unfold InG;rw[<- g9.o];exact gX.o,by rw[<- g9.o];exact gE.o⟩)) (ga.o.trans (g7.bel.mono ga.o.size)) (by
              rw[DP,<- g9.o,<- VI (l:=AB fl k)];obtain⟨xs,h1,h2,h3⟩:=g7.row;refine⟨g7.blk,ga.o.size,xs,?_,h2,fun x hx b hb=>?_⟩
              . obtain⟨e1,e2⟩:=h1;refine⟨e1,e2.imp id ?_⟩;rintro⟨g',cap,cur,hv,km,rest⟩;exact⟨g',cap,cur,hv,by have:=ga.o.size;omega,rest⟩
              . have e:=h3 x hx b hb;subst e;exact⟨gH.o.1,VH gH.o.2 g7.bel.size⟩))
             clear g7 HI;go_wp2_with fail;exact HF.o
def bitB (i v:Nat):Bool:=decide (i/2^v%2=1)
def AO (i n:Nat):List Bool:=(List.range n).map (bitB i)
def tabB (n:Nat)(F:BF):List Bool:=(List.range (2^n)).map fun i=>F (AF (AO i n))
theorem Ge (i n:Nat):(AO i n).length=n:=by simp[AO]
theorem Ch (n:Nat)(F:BF):(tabB n F).length=2^n:=by simp[tabB]
theorem EX (hi:i<2^n):(tabB n F).getD i false=F (AF (AO i n)):=by simp[tabB,List.getD,hi]
theorem I9 {v:Nat}:AF (AO i n) v=(decide (v<n)&&bitB i v):=by
 unfold AF AO
 by_cases h:v<n
 . simp[List.getD,h]
 . simp[List.getD,h]
theorem QH (hl:bs.length=2^n)(h:∀ i,i<2^n->bs.getD i false=F (AF (AO i n))):bs=tabB n F:=by
 refine WT (by rw[hl,Ch]) fun i h1 h2=>?_
 have:=h i (by omega);have e:(tabB n F).getD i false=F (AF (AO i n)):=EX (by omega);rw[<- this] at e;simpa [List.getD,h1,h2] using e.symm
abbrev Wo:=@Nat.pow_le_pow_right
theorem EY (h:k<=20):2^k<=1048576:=Wo (by omega) h
theorem QI (v:Nat)(hv:v<=20)(w:Wd):Cl 158 #[Iv v] w (Sm (Iv (2^v:Nat)) w):=by
 have HS:Hq (∀ k,k<=v->2^k<=1048576):=Hd fun k hk=>EY (by omega)
 go_enter func158,ntmps158
 go_wp2_with fail
 go_loopw [3,4] (fun s3 s4 wr=>∃ k p:Nat,k<=v/\s3=Iv p/\s4=Iv k/\w=wr/\Hq (2^k=p)) (fun _ s4 _=>v-(intOf s4).toNat)
 case atStart=>exact⟨0,1,Vu _,rfl,rfl,rfl,Hd rfl⟩
 case round =>
  obtain⟨k,p,hk,rfl,rfl,rfl,HP⟩:=hrel
  by_cases g0:k<v
  ·have hp:p<=1048576:=by rw[<- HP.o];exact HS.o k hk
   go_wp2_with fail;go_roundw
   case rel=>exact⟨k+1,2*p,by omega,by go_num,by go_num,by simp,Hd (by rw[WS,HP.o];omega)⟩
   case measure=>simp[intOf];omega
  ·have he:k=v:=by omega
   have HE:Hq (2^v=p):=by rw[<- he];exact HP
   clear he;go_wp2_with fail;go_ret;exact⟨by rw[HE.o];rfl,rfl⟩
theorem QJ {α:Type}(a b:α)(k n:Nat)(h:k<n):(List.replicate k a++List.replicate (n-k) b).set k a=List.replicate (k+1) a++List.replicate (n-(k+1)) b:=by
 have e:n-k=(n-(k+1))+1:=by omega
 rw[e,List.replicate_succ,XH _ _ (by simp),WV,Nat.sub_self,List.set_cons_zero,List.replicate_succ',VC];rfl
theorem QK (b:Bool)(n:Nat)(hn:n<=16)(w:Wd):Cl 124 #[.bool b,Iv n] w fun x w'=>∃ g,x=.returned (.slice (some (Av g)) (2^n) (2^n))/\OwnB w' w.heap.size (.slice (some (Av g)) (2^n) (2^n)) (List.replicate (2^n) b)/\Bw w w':=by
 have HS:Hq (∀ k,k<=n->2^k<=1048576):=Hd fun k hk=>EY (by omega)
 obtain⟨L,hL⟩:=Ex (2^n);have HL:=Hd hL;have g8:L<=1048576:=by rw[hL];exact EY (by omega)
 rw[<- hL];clear hL
 go_enter func124,ntmps124
 go_wp2_with fail
 go_loopw [5,6] (fun s5 s6 wr=>∃ k p:Nat,k<=n/\s5=Iv p/\s6=Iv k/\w=wr/\Hq (2^k=p)) (fun _ s6 _=>n-(intOf s6).toNat)
 case atStart=>exact⟨0,1,Vu _,rfl,rfl,rfl,Hd rfl⟩
 case round =>
  obtain⟨k,p,hk,rfl,rfl,rfl,HP⟩:=hrel
  by_cases g3:k<n
  ·have hp:p<=1048576:=by rw[<- HP.o];exact HS.o k hk
   go_wp2_with fail;go_roundw
   case rel=>exact⟨k+1,2*p,by omega,by go_num,by go_num,by simp,Hd (by rw[WS,HP.o];omega)⟩
   case measure=>simp[intOf];omega
  ·have he:k=n:=by omega
   have hp:p=L:=by rw[<- HP.o,he,HL.o]
   subst hp;clear he;go_wp2_with (at_make;refine KB CK rfl _ _ rfl w.heap.size w _ p rfl rfl rfl (by omega) (Vo _) (VA _ _) ?_;intro g w1 g2 g6 hs1 g7 g5 g4;clear g4)
   go_loopw [8] (fun i wr=>∃ j:Nat,j<=p/\i=Iv j/\OwnB wr w.heap.size (.slice (some (Av g)) p p) (List.replicate j b++List.replicate (p-j) false)/\Bw w wr) (fun i _=>p-(intOf i).toNat)
   case atStart=>exact⟨0,by omega,rfl,by unfold OwnB;rw[show A8 (List.replicate 0 b++List.replicate (p-0) false)=List.replicate p (Value.bool false) by simp[A8]];exact g2,g6⟩
   case round =>
    obtain⟨j,hj,rfl,g0,g1⟩:=hrel
    by_cases g3:j<p
    ·have q0:=g0.cellB j (by simp;omega);have p0:=g0.frozen j;go_wp2_with fail;go_roundw
     case rel=>exact⟨j+1,by omega,by go_num,by rw[<- QJ b false j p g3];exact g0.setB j b,g1.setCell g5 _⟩
     case measure=>simp[intOf];omega
    ·obtain rfl:j=p:=by omega
     go_wp2_with fail;go_ret;exact⟨_,rfl,by simpa using g0,g1⟩
theorem QL (n:Nat)(hn:n<=64)(w:Wd):Cl 176 #[Iv n,Iv 0,Iv 64] w (Sm (Iv n) w):=by
 go_enter func176,ntmps176
 go_wp2_with fail;go_ret;exact⟨rfl,rfl⟩
theorem Li (i n:Nat):AO i (n+1)=AO i n++[bitB i n]:=by simp[AO,Xl]
theorem QM {o:Own}{r:Role}{a:Option Addr}{xs:List Nat}(h:RowR o w r 3 1 (.slice a xs.length cap) xs.length (xs.map nat64))(hl:xs.length<=1000000):Au w a (xs.map Int.ofNat):=by
 refine⟨by simp;omega,fun k hk=>?_⟩;simp only[Vw] at hk;obtain⟨g,cap',he,_⟩:=h.shape (by omega);cases he;refine⟨g,0,rfl,?_⟩;have h1:=h.cell k (by simpa using hk);rw[VJ,h1,Az (by simpa using hk)];simp[nat64,hk]
theorem QN {o:Own}(h:A2 o w sb d)(hlt:Ab o w)(hl:d.vars.length<=64) :
 Cl 63 #[Pt sb] w fun x w'=>∃ v,x=.returned v/\OwnI w' w.heap.size v (d.vars.map Int.ofNat)/\Bw w w':=by
 obtain⟨s,h⟩:=h;obtain⟨c0,c1,c2,c3,c4,f0⟩:=cells5 h.blk;obtain⟨d0,d1,_⟩:=cells2 h.lev;have lsb:sb<w.heap.size:=Ah c0;have llb:s.lb<w.heap.size:=Ah d0;obtain⟨a,cap,hv,_,_,g1,_⟩:=h.vars.slice;have g0:=h.vars;rw[hv] at d0 g0;have HI:=Hd (QM g0 (by omega));have HN:=Hd g1;have e:d.vars.length=(d.vars.map Int.ofNat).length:=by simp
 rw[e] at d0;have g6:(d.vars.map Int.ofNat).length<=64:=by rw[<- e];exact hl
 generalize d.vars.map Int.ofNat=zs at *
 clear h hv g0 e g1 hl
 go_enter func63,ntmps63
 go_wp2_with (at_builtin;refine Dn rfl _ _ rfl w.heap.size w _ [] zs _ _ rfl rfl (Ec w w.heap.size (Vo _)) (HI.o.below (Af _ _)) (by simp;omega) (by simp) (Af _ _) HN.o ?_;intro v1 w1 g2 g3 g4 g5);go_ret;exact⟨_,rfl,by simpa using g2,g3⟩
theorem Lj {F:Phi}{o:Own}(h:Ba F o w mb m)(hlt:Ab o w)(hl:m.d.vars.length<=64) :
 Cl 19 #[Pt mb] w fun x w'=>∃ v,x=.returned v/\OwnI w' w.heap.size v (m.d.vars.map Int.ofNat)/\Bw w w':=by
 obtain⟨s,h⟩:=h;obtain⟨c0,c1,c2,c3,c4,c5,f0⟩:=cells6 h.blk;have HP:=Hd (QN h.store hlt hl);clear h hlt hl
 go_enter func19,ntmps19
 go_wp2_with fail;refine HP.o.mono ?_;rintro x w' ⟨v,rfl,h1,h2⟩;have H1:=Hd h1;have H2:=Hd h2;clear h1 h2;go_wp2_with fail;go_ret;exact⟨v,rfl,H1.o,H2.o⟩
open Go.RowKit Go.Shelf
abbrev XT:=@Oper.semAt_some
attribute [local go_sem] XT
def BX (p:Ad)(k:Nat):List Nat:=(List.range k).filter p.tk
def BE (p:Ad):List Nat:=BX p p.at_.length
theorem IA (h:p.tk k=true):BX p (k+1)=BX p k++[k]:=by
 unfold BX;rw[Xl,Wl];simp[h]
theorem Lk (h:p.tk k=false):BX p (k+1)=BX p k:=by
 unfold BX;rw[Xl,Wl];simp[h]
theorem QR (p:Ad){m:Nat}:k<=m->∃ suf,BX p k++suf=BX p m:=by
 induction m with
 | zero => intro h; obtain rfl : k = 0 := by omega
           exact⟨[],by simp⟩
 | succ m ih =>
   intro h
   by_cases e:k=m+1
   . subst e;exact⟨[],by simp⟩
   ·obtain⟨suf,hs⟩:=ih (by omega);cases h2:p.tk m with
    | false=>exact⟨suf,by rw[Lk h2];exact hs⟩
    | true=>exact⟨suf++[m],by rw[IA h2,<- hs,VC]⟩
theorem QS (h:p.tk k=true)(hk:k<p.at_.length):∃ suf,BX p k++k::suf=BE p:=by
 obtain⟨suf,hs⟩:=QR p (k:=k+1) (m:=p.at_.length) (by omega);rw[IA h,VC] at hs;exact⟨suf,hs⟩
theorem Ll {suf:List Nat}(h:pre++x::suf=BE p):p.tk x=true:=by
 have:x∈BE p:=by rw[<- h];simp
 exact(WD.1 this).2
structure ItS (n₀:Nat)(o:Own)(w0:Wd)(pb:Nat)(p:Ad)(Bp:Nat)(M0 M:Nat->Prop)(W0 W:Wd):Prop where
 low:Below n₀ w0 W
 box:W.cell? (Av Bp)=some (Pt pb)
 wr:Wr (fun k=>n₀<=k) W0 W
 sub:∀ k,M k->M0 k\/W0.heap.size<=k
 nb:¬ M Bp
theorem ItS.go {o:Own}{Bp:Nat}{M0 M':Nat->Prop}(h:ItS n₀ o w0 pb p Bp M0 M W0 W)(hn:n₀<=W0.heap.size)(hge:∀ k,M k->n₀<=k)(hw:Wr M W W')
 (hM:∀ k,M' k->M k\/W.heap.size<=k):ItS n₀ o w0 pb p Bp M0 M' W0 W':=by
 have hs:=h.wr.size;have hb:=Ah h.box;refine⟨h.low.trans (hw.below hge (by omega)),?_,h.wr.trans hw (fun _ _ h=>h) (fun k _ hk=>hge k hk),fun k hk=>?_,fun e=>?_⟩
 . exact(Co h.box (hw.keep Bp hb h.nb))
 ·rcases hM k hk with h1|h1
  . exact h.sub k h1
  . right;omega
 ·rcases hM Bp e with h1|h1
  . exact h.nb h1
  . have g0:Bp<W.heap.size:=hb;omega
theorem QT (F:Fence)(n:Nat)(hF:F.fn 272)(hro:F.round=none)(hn:1<=n)(Bp n₀ pb:Nat){o:Own}(hp:Ap o w0 pb p)(hlt:Ab o w0)(h0:w0.heap.size<=n₀)(w:Wd)
 (hw:Below n₀ w0 w) (hn0:n₀<=w.heap.size) (hBp:w.cell? (Av Bp)=some (Pt pb)) :
 Gives F n 0 prog 272 #[Pt Bp] (fun i:Nat=>#[Iv i]) n₀ (· = Bp) (BE p) w:=by
 intro l J M W g9 gg g1 gd hY hJ;have g8:=Ah hBp;have g2:ItS n₀ o w0 pb p Bp M M W W:=⟨hw.trans (g1.below (fun k h=>h.1) hn0),Co hBp (g1.keep Bp g8 (fun h=>h.2 rfl)),Wr.refl _ _,fun k h=>.inl h,gd Bp rfl⟩;have ge:n₀<=W.heap.size:=Vx hn0 g1.size;have HP:∀ W',Below n₀ w0 W'->Ap o W' pb p:=fun W' hb=>hp.below (hb.mono h0) hlt
 obtain⟨vs,vt,vf,c0,c1,c2,c3,c4,hs,ht,_⟩:=(HP W g2.low).cells;have gf:=g2.box;have g3:=hp.pos;obtain⟨gs,cs,rfl,_⟩:=hs.shape g3;have g4:=hp.len;have gq:=hp.top;have gp:=hp.room;have gj:=Hd HP;have gh:=Hd hY;have gi:=Hd g2;have gk:=Hd g9;clear HP hY hs ht hp hlt h0 g2 g9 gg g1 gd hw hn0 hBp g8;refine callsIn_of_wp func272 rfl hF ?_ hro;simp only[ntmps272,WJ,VG,WI,Nat.reduceAdd,Nat.reduceSub,WZ,Xa,Xi,Xf,Wz,Xh]
 gi_wp2
 gi_loopw [11] (fun i wr=>∃ (k:Nat) (M1:Nat->Prop),k<=p.at_.length/\i=Iv k/\J (BX p k) M1 wr/\ItS n₀ o w0 pb p Bp M M1 W wr) (fun i _=>p.at_.length-(intOf i).toNat)
 case atStart=>exact⟨0,M,Vu _,rfl,hJ,gi.o⟩
 case round =>
  obtain⟨k,M1,hk,rfl,g0,hS⟩:=hrel
  by_cases hlt:k<p.at_.length
  ·obtain⟨vs,vt,vf,d0,d1,d2,d3,d4,hs,ht,_⟩:=(gj.o wr hS.low).cells;have gf:=hS.box;obtain⟨gt,ct,rfl,_⟩:=ht.shape (by rw[g4];exact g3);have g7:=Ap.flag ht (k:=k) (by omega);rw[g4] at d2;have gr:(k:Int)<p.at_.length:=by omega
   have HS:=Hd hS;cases hB:p.tk k with
   | false =>
     rw[hB] at g7;have g5:Hq (J (BX p (k+1)) M1 wr):=by show J _ _ _;rw[Lk hB];exact g0
     clear hB hs ht hS g0 hJ
     gi_wp2
     refine⟨fun _ h=>(by cases h),?_⟩
     gi_wp2
     go_roundw
     case rel=>exact⟨k+1,M1,by omega,by simp,g5.o,HS.o⟩
     case measure=>simp[intOf];omega
   | true =>
     rw[hB] at g7;have gn:=Hd (fun q (hq:M1 q)=>(gk.o _ _ _ g0 q hq).1);obtain⟨fn,tmps,assign,body,hy,hR⟩:=gh.o _ k M1 wr g0 (QS hB hlt);have HU:=Hd (IA hB);have HR:=Hd hR;clear hs ht hS g0 hR hB hJ
     gi_wp2
     refine HR.o.mono ?_;rintro e W3 ⟨rfl,M3,gc,g6,ga⟩;have gm:=Hd gc;have gl:=Hd (HS.o.go ge gn.o g6 ga);clear gc g6 ga
     gi_wp2
     go_roundw
     case rel=>exact⟨k+1,M3,by omega,by simp,by rw[HU.o];exact gm.o,gl.o⟩
     case measure=>simp[intOf];omega
  ·obtain rfl:k=p.at_.length:=by omega
   have g5:=Hd g0;have HS:=Hd hS;clear g0 hS hJ
   gi_wp2
   go_end0;exact⟨⟨_,rfl⟩,M1,g5.o,HS.o.wr,HS.o.sub⟩
theorem QU (F:Fence)(n:Nat)(hF:F.fn 267)(hro:F.round=none)(pb:Nat)(w:Wd) :
 CallsIn F n prog 267 #[Pt pb] w fun e w'=>e=.returned (.func (.func 272) #[] #[Pt w.heap.size])/\w'=w.alloc (.cells #[Pt pb] 147):=by
 refine callsIn_of_wp func267 rfl hF ?_ hro;simp only[ntmps267,WJ,VG,WI,Nat.reduceAdd,Nat.reduceSub,WZ,Xa,Xi,Xf,Wz,Xh]
 gi_wp2
 go_ret;exact⟨rfl,rfl⟩
theorem QV (F:Fence)(n:Nat)(hF:F.fn 255)(hro:F.round=none)(pb:Nat)(w:Wd) :
 CallsIn F n prog 255 #[Pt pb] w fun e w'=>e=.returned (.func (.func 266) #[] #[Pt w.heap.size])/\w'=w.alloc (.cells #[Pt pb] 147):=by
 refine callsIn_of_wp func255 rfl hF ?_ hro;simp only[ntmps255,WJ,VG,WI,Nat.reduceAdd,Nat.reduceSub,WZ,Xa,Xi,Xf,Wz,Xh]
 gi_wp2
 go_ret;exact⟨rfl,rfl⟩
attribute [local go_sem] XT
structure EaS (n₀:Nat)(o:Own)(w0:Wd)(pb:Nat)(p:Ad)(Bp By l:Nat)(M0 M:Nat->Prop)(W0 W:Wd):Prop where
 it:ItS n₀ o w0 pb p Bp M0 M W0 W
 boxy:W.cell? (Av By)=some (.func (.yield l) #[] #[])
 ny:¬ M By
 ge:∀ k,M k->n₀<=k
theorem Gf {b:Nat}(h:Wr M W W')(hc:W.cell? (Aw b k)=some v)(hn:¬ M b):W'.cell? (Aw b k)=some v :=
 (Co hc (h.keep b (Ah hc) hn))
theorem EaS.go {n₀:Nat}{o:Own}{w0:Wd}{pb:Nat}{p:Ad}{Bp By l:Nat}{M0 M M':Nat->Prop}{W0 W W':Wd}(h:EaS n₀ o w0 pb p Bp By l M0 M W0 W)(hn:n₀<=W0.heap.size)(hw:Wr M W W')
 (hM:∀ k,M' k->M k\/W.heap.size<=k):EaS n₀ o w0 pb p Bp By l M0 M' W0 W':=by
 have hs:=h.it.wr.size;have hb:By<W.heap.size:=Ah h.boxy;refine⟨h.it.go hn h.ge hw hM,Gf hw h.boxy h.ny,fun e=>?_,fun k hk=>?_⟩
 ·rcases hM By e with h1|h1
  . exact h.ny h1
  . omega
 ·rcases hM k hk with h1|h1
  . exact h.ge k h1
  . omega
theorem QW (F:Fence)(n:Nat)(hF1:F.fn 266)(hF2:F.fn 267)(hF3:F.fn 272)(hro:F.round=none)(hn:4<=n)(Bp n₀ pb:Nat){o:Own}(hp:Ap o w0 pb p)(hlt:Ab o w0)(h0:w0.heap.size<=n₀)(w:Wd)
 (hw:Below n₀ w0 w) (hn0:n₀<=w.heap.size) (hBn:n₀<=Bp) (hBp:w.cell? (Av Bp)=some (Pt pb)) :
 Gives F n 2 prog 266 #[Pt Bp] (fun i:Nat=>#[Am (p.nd i)]) n₀ (· = Bp) (BE p) w:=by
 intro l J M W g6 g7 g3 gp hY hJ;have gx:Bp<w.heap.size:=Ah hBp;have gT:Bp<W.heap.size:=VH gx g3.size;have gd:n₀<=W.heap.size:=Vx hn0 g3.size;have gh:W.cell? (Av Bp)=some (Pt pb):=Gf g3 hBp (fun h=>h.2 rfl);have gg:Below n₀ w0 W:=hw.trans (g3.below (fun k h=>h.1) hn0);obtain⟨V,hV⟩:=Ex ((W.alloc (.cells #[.func (.yield l) #[] #[]] 302)).alloc (.cells #[Pt pb] 147));have g4:∀ N,Wr N W V:=fun N=>by rw[hV];exact((Wr.refl N W).alloc _).alloc _
 have gk:J [] M V:=g7 _ _ _ _ hJ (g4 _);have g2:=g6 _ _ _ hJ;have g9:V.cell? (Av W.heap.size)=some (.func (.yield l) #[] #[]):=by rw[hV];simp
 have gc:V.cell? (Av (W.heap.size+1))=some (Pt pb):=by rw[hV];simp
 have gn:V.cell? (Av Bp)=some (Pt pb):=Gf (g4 (fun _=>False)) gh (fun h=>h);have g1:Below n₀ w0 V:=gg.trans ((g4 (fun k=>n₀<=k)).below (fun _ h=>h) gd);have gi:V.heap.size=W.heap.size+2:=by rw[hV];simp
 have gl:EaS n₀ o w0 pb p Bp W.heap.size l M M V V:=⟨⟨g1,gn,Wr.refl _ _,fun k h=>.inl h,gp Bp rfl⟩,g9,fun e=>by have:=(g2 _ e).2;omega,fun k h=>(g2 k h).1⟩;have HP:∀ W',Below n₀ w0 W'->Ap o W' pb p:=fun W' hb=>hp.below (hb.mono h0) hlt
 have HG:=Hd (QT F (n-1) hF3 hro (by omega) (W.heap.size+1) n₀ pb hp hlt h0 V g1 (by omega) gc);have gq:=Hd HP;have gB:=Hd hY;have gF:=Hd gl;have gD:=Hd g6;have gt:=Hd g2;have g8:=Hd g7;have gE:=Hd gk;have gC:=Hd g4;have gI:=hp.len;have gr:=hp.pos;have gH:=hp.top;have gG:=hp.room;have h1:1<=n:=by omega
 have gP:(W.alloc (.cells #[.func (.yield l) #[] #[]] 302)).cell? (Av Bp)=some (Pt pb):=Gf ((Wr.refl (fun _=>False) W).alloc _) gh (fun h=>h);refine callsIn_of_wp_marks func266 rfl hF1 ?_ hro;simp only[ntmps266,WJ,VG,WI,Nat.reduceAdd,Nat.reduceSub,WZ,Xa,Xi,Xf,Wz,Xh];clear g6 g7 g3 gp hY hJ gk g2 g9 gc gn g1 gl HP hp hlt h0 hw hBp gg g4 gi
 gi_wp2_with (gi_at_call 267;refine(QU F (n-1) hF2 hro _ _).mono ?_;rintro e w' ⟨rfl,rfl⟩)
 rw[<- hV];have gi:V.heap.size=W.heap.size+2:=by rw[hV];simp
 clear hV;have gL:prog.follows .mixedOrders=true:=by kernel_rfl
 refine K3 hro h1 (gf:=272) (lb:=#[Pt (W.heap.size+1)]) rfl hF3 (XQ func272 (by kernel_rfl) rfl) HG.o
  (by omega) (by rintro k rfl;omega) (fun x=>rfl)
  (fun pre N V'=>∃ M1,(∀ k,N k↔M1 k\/k=W.heap.size\/k=Bp)/\J pre M1 V'/\EaS n₀ o w0 pb p Bp W.heap.size l M M1 V V')
  ?_ ?_ (fun k=>M k\/k=W.heap.size\/k=Bp) ?_ ⟨M,fun k=>Iff.rfl,gE.o,gF.o⟩
  (fun x a' _ _=>a'={
   tmps :=
    #[Value.func (Fn.yield l) #[] #[],Value.pointer (some { block:=Bp,off:=0 }),
     Value.pointer (some { block:=W.heap.size,off:=0 }),Value.int IntKind.i64 ↑x,
     Value.pointer (some { block:=pb,off:=0 }),
     Value.func (Fn.func 272) #[] #[Value.pointer (some { block:=W.heap.size+1,off:=0 })],
     Value.int IntKind.i64 ↑x,undef,undef,undef,undef,undef,undef,undef,undef,undef,undef],
   defers:=[] }) ?_ ?_ ?_ ?_
 ·rintro pre N V' ⟨M1,hN,hj,hE⟩ k hk;rcases(hN k).1 hk with h|h|h
  . exact gD.o _ _ _ hj k h
  . subst h;exact⟨gd,Ah hE.boxy⟩
  . subst h;exact⟨hBn,Ah hE.it.box⟩
 ·rintro pre N V' V'' ⟨M1,hN,hj,hE⟩ hw
  have g5:∀ k,k<V'.heap.size->(k<n₀\/N k)->V''.heap[k]?=V'.heap[k]?:=fun k hk hn=>hw.keep k hk (fun⟨a,b⟩=>by
   rcases hn with h|h
   . omega
   . exact b h)
  refine⟨M1,hN,g8.o _ _ _ _ hj (hw.mono fun k ⟨a,b⟩=>⟨a,fun h=>b ((hN k).2 (.inl h))⟩),⟨⟨?_,?_,?_,hE.it.sub,hE.it.nb⟩,?_,hE.ny,hE.ge⟩⟩
  . exact hE.it.low.trans (hw.below (fun k h=>h.1) (by have:=hE.it.wr.size;omega))
  . exact(Co hE.it.box (g5 _ (Ah hE.it.box) (.inr ((hN _).2 (.inr (.inr rfl))))))
  . exact hE.it.wr.trans hw (fun _ _ h=>h) (fun k _ h=>h.1)
  . exact(Co hE.boxy (g5 _ (Ah hE.boxy) (.inr ((hN _).2 (.inr (.inl rfl))))))
 ·rintro k rfl h;have gR:W.heap.size+1<W.heap.size\/W.heap.size+1=W.heap.size\/W.heap.size+1=Bp:=by
   rcases h with h|h
   . left;exact(gt.o _ h).2
   . right;exact h
  omega
 . intro x a' W' W1 W2 l' _ h _;exact h
 ·intro l' pre x N V' K hI hK
  gi_wp2
  exact hK _ _ (Wr.refl _ _) rfl
 ·rintro l' pre x a' N W0 W1 ⟨M1,hN,hj,hE⟩ rfl gK hs1 g0;obtain⟨suf,g0⟩:=g0;have hx:p.tk x=true:=Ll g0;obtain⟨vs,vt,vf,d0,d1,d2,d3,d4,hs,ht,_⟩:=(gq.o W1 hE.it.low).cells;have gO:=hE.it.box;have gN:=hE.boxy;obtain⟨gs,cs,rfl,gw⟩:=hs.shape gr;have gu:=((gq.o W1 hE.it.low).tk_lt hx).2;have gM:=Ap.node hs (k:=x) gu;have gJ:(x:Int)<p.at_.length:=by omega
  obtain⟨fn,tmps,assign,body,hy,hR⟩:=gB.o _ x M1 W1.drew (g8.o _ _ _ _ hj ((Wr.refl _ W1).drew)) ⟨suf,g0⟩;simp only[Am] at hy;have HR:=Hd hR;have HE:=Hd hE;have HN:=Hd hN;clear hs hE hj hR hN g0 gw
  gi_wp2
  gi_region_with_o (refine⟨fun _=>by omega,HR.o.mono ?_⟩;rintro e W3 ⟨rfl,M3,gy,ga,gj⟩)
  all_goals gi_wp2
  all_goals exact⟨fun k=>M3 k\/k=W.heap.size\/k=Bp,⟨M3,fun k=>Iff.rfl,gy,HE.o.go (by omega) (Wr.trans ((Wr.refl M1 W1).drew) ga (fun _ _ h=>h) (fun _ _ h=>h)) gj⟩,
   Wr.trans ((Wr.refl M1 W1).drew) ga (fun k _ h=>.inl ((HN.o k).2 (.inl h))) (fun k _ h=>.inl ((HN.o k).2 (.inl h))),
   fun k hk=>by
    rcases hk with hk|hk
    ·rcases gj k hk with h|h
     . exact .inl ((HN.o k).2 (.inl h))
     . right;have:W1.heap.size<=k:=h;omega
    . exact .inl ((HN.o k).2 (.inr hk))⟩
 ·rintro D N W2 gS gA ⟨M1,hN,hj,hE⟩ gQ gv gz
  gi_wp2
  refine⟨by simp,.inl ⟨_,_,rfl,run_takeDeferred gz,?_⟩⟩;have gm:n₀<=D:=by omega
  refine⟨_,Xr rfl _ _ _,⟨_,rfl⟩,M1,?_,?_,?_⟩
  . exact g8.o _ _ _ _ hj ((Wr.refl _ _).putObj (.inl ⟨gm,fun h=>gA ((hN D).2 (.inl h))⟩) _)
  . exact((gC.o (fun k=>n₀<=k)).trans gv (fun _ _ h=>h) (fun _ _ h=>h)).putObj (.inl gm) _
  ·intro k hk;rcases hE.it.sub k hk with h|h
   . exact .inl h
   . right;omega
def AG (d:Ae):List Nat:=(BE d.pool).filter (fun i=>decide (Ai d i=0))
theorem QX (p:Ad):(BE p).Nodup:=(Yg).filter _
theorem QY (d:Ae):(AG d).Nodup:=(QX d.pool).filter _
theorem IB (h:i∈AG d):d.pool.tk i=true/\Ai d i=0:=by
 unfold AG at h;rw[WD] at h;exact⟨(WD.1 h.1).2,by simpa using h.2⟩
theorem Lm (f g:Nat->Bool):∀ k,((((List.range k).filter f).filter g).length:Int)=Ag k (fun i=>if f i=true then (if g i=true then 1 else 0) else 0)
 | 0=>by simp[Ag]
 | k+1=>by
   rw[Xl,Wl,Wl,Vr];have ih:=Lm f g k;rw[Int.natCast_add,ih];cases hf:f k<;>cases hg:g k<;>simp[Ag,hf,hg,List.filter]
theorem Ln {ext:Nat->Int}(h:AA d ext):(AG d).length=d.dead:=by
 have h1:=h.dead;have h2:((AG d).length:Int)=Ag d.pool.at_.length (dead1 (Aa d) (Ai d)):=by
  unfold AG BE BX;rw[Lm];refine B6 _ fun i _=>?_
  unfold dead1 Aa Ad.get;cases ht:d.pool.tk i<;>simp
 unfold Bc at h1;omega
structure Cy (d:Ae)(k:Nat)(d':Ae):Prop where
 vars:d'.vars=d.vars
 level:d'.level=d.level
 counts:d'.counts=d.counts
 dead:d'.dead=d.dead
 room:d'.pool.room=d.pool.room
 alen:d'.pool.at_.length=d.pool.at_.length
 keep:∀ i,i∉(AG d).take k->d'.pool.tk i=d.pool.tk i/\d'.pool.nd i=d.pool.nd i
 gone:∀ i,i∈(AG d).take k->d'.pool.tk i=false
 tab:∀ v,v<d.vars.length->∀ lo hi id,d'.tab v (lo,hi)=some id↔Aa d' id=some ⟨v,lo,hi⟩
 many:d'.pool.many+k=d.pool.many
theorem Cy.start (ht:∀ v,v<d.vars.length->∀ lo hi id,d.tab v (lo,hi)=some id↔Aa d id=some ⟨v,lo,hi⟩):Cy d 0 d :=
 ⟨rfl,rfl,rfl,rfl,rfl,rfl,fun _ _=>⟨rfl,rfl⟩,fun i h=>by simp at h,ht,rfl⟩
def IC (d:Ae)(i:Nat)(b:BN):Ae:={ d with pool:=d.pool.give i,tab:=fun v=>if v=b.v then putF (d.tab v) (b.lo,b.hi) none else d.tab v }
theorem Cy.at {d d':Ae}{k i:Nat}(h:Cy d k d')(hi:(AG d)[k]?=some i):d'.pool.tk i=true/\d'.pool.nd i=d.pool.nd i:=by
 obtain⟨g0,e⟩:=Wf.1 hi;have hm:i∈AG d:=e ▸ Vv g0;have hn:i∉(AG d).take k:=by
  intro hh;rw[List.mem_take_iff_getElem] at hh;obtain⟨j,hj,e2⟩:=hh;have g1:=VV.1 (QY d) j k (by omega) g0 (by omega);exact g1 (e2.trans e.symm)
 have:=h.keep i hn;exact⟨this.1.trans (IB hm).1,this.2⟩
theorem Cy.next (h:Cy d k d')(hi:(AG d)[k]?=some i)(hl:d'.pool.taken.length=d'.pool.at_.length)(hat:i<d'.pool.at_.length)(hm:1<=d'.pool.many) :
 Cy d (k+1) (IC d' i (bnOf (d'.pool.nd i))):=by
 obtain⟨g2,e⟩:=Wf.1 hi;obtain⟨ht,g3⟩:=h.at hi;have e1:(AG d).take (k+1)=(AG d).take k++[i]:=by rw[Vt g2,e]
 have tk:∀ j,(d'.pool.give i).tk j=if j=i then false else d'.pool.tk j:=fun j=>EH (by rw[hl];exact hat) j
 have nd:∀ j,(d'.pool.give i).nd j=if j=i then rn0 else d'.pool.nd j:=fun j=>Dd hat j
 have g0:Aa d' i=some (bnOf (d'.pool.nd i)):=by unfold Aa Ad.get;rw[Vs ht];rfl
 have g1:∀ j,Aa (IC d' i (bnOf (d'.pool.nd i))) j=if j=i then none else Aa d' j:=fun j=>by
  unfold Aa
  show ((d'.pool.give i).get j).map bnOf=_
  rw[Ad.give_get (by rw[hl];exact hat) hat]
  by_cases e:j=i<;>simp[e]
 refine⟨h.vars,h.level,h.counts,h.dead,h.room,?_,fun j hj=>?_,fun j hj=>?_,fun v hv lo hY id=>?_,?_⟩
 ·show (d'.pool.at_.set i rn0).length=_
  rw[VM];exact h.alen
 ·rw[e1] at hj;simp only[Vy,VF,not_or] at hj
  show (d'.pool.give i).tk j=_/\(d'.pool.give i).nd j=_
  rw[tk,nd,Vn hj.2,Vn hj.2];exact h.keep j hj.1
 ·rw[e1] at hj;simp only[Vy,VF] at hj
  show (d'.pool.give i).tk j=_
  rw[tk]
  by_cases e2:j=i
  . rw[Vs e2]
  . rw[Vn e2];exact h.gone j (hj.resolve_right e2)
 ·rw[g1];have h0:=h.tab v hv lo hY id
  show (if v=(bnOf (d'.pool.nd i)).v then putF (d'.tab v) ((bnOf (d'.pool.nd i)).lo,(bnOf (d'.pool.nd i)).hi) none else d'.tab v) (lo,hY)=some id↔_
  by_cases e2:id=i
  ·subst e2;simp only[Ws];constructor
   ·intro hh;exfalso
    by_cases e3:v=(bnOf (d'.pool.nd id)).v
    ·rw[Vs e3] at hh;unfold putF at hh
     by_cases e4:(lo,hY)=((bnOf (d'.pool.nd id)).lo,(bnOf (d'.pool.nd id)).hi)
     . rw[Vs e4] at hh;cases hh
     . rw[Vn e4,h0,g0] at hh;cases hh;exact e4 rfl
    . rw[Vn e3,h0,g0] at hh;cases hh;exact e3 rfl
   . intro hh;cases hh
  ·rw[Vn e2,<- h0]
   by_cases e3:v=(bnOf (d'.pool.nd i)).v
   ·rw[Vs e3];unfold putF
    by_cases e4:(lo,hY)=((bnOf (d'.pool.nd i)).lo,(bnOf (d'.pool.nd i)).hi)
    ·rw[Vs e4];constructor
     . intro hh;cases hh
     . intro hh;exfalso;have q:=(h.tab v hv lo hY i).2 (by rw[g0];cases e4;rw[e3]);rw[hh] at q;cases q;exact e2 rfl
    . rw[Vn e4]
   . rw[Vn e3]
 ·show d'.pool.many-1+(k+1)=_
  have:=h.many;omega
structure AJ (d d':Ae):Prop where
 vars:d'.vars=d.vars
 level:d'.level=d.level
 counts:d'.counts=d.counts
 room:d'.pool.room=d.pool.room
 dead:d'.dead=0
 alen:d'.pool.at_.length=d.pool.at_.length
 nodes:∀ i,Aa d' i=if 0<Ai d i then Aa d i else none
 ext:∀ i b,Aa d' i=some b->Aj d' i=Aj d i
 tab:∀ v,v<d.vars.length->∀ lo hi id,d'.tab v (lo,hi)=some id↔Aa d' id=some ⟨v,lo,hi⟩
 many:d'.pool.many+d.dead=d.pool.many
theorem Cy.done {ext:Nat->Int}(h:Cy d (AG d).length d')(hl:AA d ext)(hat:∀ i,d.pool.tk i=true->i<d.pool.at_.length):AJ d { d' with dead:=0 }:=by
 have hk:(AG d).take (AG d).length=AG d:=VI;have g1:∀ i,d.pool.tk i=true->Ai d i=0->i∈AG d:=fun i h1 h2=>by
  unfold AG BE BX;simp only[WD,Xb,WB];exact⟨⟨hat i h1,h1⟩,h2⟩
 refine⟨h.vars,h.level,h.counts,h.room,rfl,h.alen,fun i=>?_,fun i b hb=>?_,h.tab,by rw[<- Ln hl];exact h.many⟩
 ·show (d'.pool.get i).map bnOf=if 0<Ai d i then (d.pool.get i).map bnOf else none
  unfold Ad.get
  by_cases hc:i∈AG d
  . have h1:=h.gone i (by rw[hk];exact hc);have h2:=(IB hc).2;simp[h1,h2]
  ·obtain⟨h1,h2⟩:=h.keep i (by rw[hk];exact hc);rw[h1,h2]
   by_cases h3:0<Ai d i
   . rw[Vs h3]
   ·rw[Vn h3];cases ht:d.pool.tk i with
    | false=>rfl
    | true=>exact absurd (g1 i ht (by omega)) hc
 ·have g0:(d'.pool.get i).map bnOf=some b:=hb;have ht:d'.pool.tk i=true:=by
   unfold Ad.get at g0;cases ht:d'.pool.tk i with
   | true=>rfl
   | false=>rw[ht] at g0;simp at g0
  have hc:i∉AG d:=fun hc=>by rw[h.gone i (by rw[hk];exact hc)] at ht;cases ht
  obtain⟨h1,h2⟩:=h.keep i (by rw[hk];exact hc)
  show (if d'.pool.tk i=true then ((d'.pool.nd i).refs:Int) else 0)=if d.pool.tk i=true then ((d.pool.nd i).refs:Int) else 0
  rw[h1,h2]
theorem Gg {ext:Nat->Int}(hl:AA d ext)(h0:d.dead=0)(hb:Aa d i=some b):0<Ai d i:=by
 have h1:=hl.dead;rw[h0] at h1;have h2:=F4 (f:=dead1 (Aa d) (Ai d)) d.pool.at_.length (fun i _=>JI _ _ i) (hl.cnt.lt i b hb);unfold Bc at h1;unfold dead1 at h2;rw[hb] at h2
 by_cases h:Ai d i=0
 . simp only[h,Ws] at h2;unfold dead1 at h1;omega
 . omega
theorem AJ.none {d:Ae}{V:Nat->BF}(hk:Ak d V)(h0:d.dead=0):AJ d d:=by
 refine⟨rfl,rfl,rfl,rfl,h0,rfl,fun i=>?_,fun _ _ _=>rfl,hk.tab,by omega⟩;cases hb:Aa d i with
 | none=>simp
 | some b=>rw[Vs (Gg hk.live h0 hb)]
theorem QZ (d:Ae)(i:Nat):0<=Aj d i:=by unfold Aj;split<;>omega
section
theorem AJ.sub (r:AJ d d')(h:Aa d' i=some b):Aa d i=some b/\0<Ai d i:=by
 rw[r.nodes] at h;split at h
 . rename_i hc;exact⟨h,hc⟩
 . cases h
theorem AJ.cnt (r:AJ d d'):Ai d'=Ai d:=by funext i;unfold Ai;rw[r.counts]
theorem AJ.lev (r:AJ d d'):levN d'=levN d:=by funext v;unfold levN;rw[r.level]
theorem AJ.kid (r:AJ d d')(hk:Ak d V)(h:Aa d' i=some b)(he:e=b.lo\/e=b.hi):okE (Aa d') e:=by
 obtain⟨h1,h2⟩:=r.sub h;have ho:okE (Aa d) e:=by
  rcases he with rfl|rfl
  . exact hk.dag.okLo i b h1
  . exact hk.dag.okHi i b h1
 rcases ho with h0|⟨c,hc⟩
 . exact .inl h0
 . refine .inr ⟨c,?_⟩;rw[r.nodes,Vs (hk.live.cnt.pos_of_live h1 h2 he hc (QZ d _))];exact hc
theorem AJ.lvE (r:AJ d d')(h0:Aa d 0=Option.none){n:Nat}{lev:Nat->Nat}{e:Nat}(he:okE (Aa d') e):Go.Proofs.YtkidaindpahefaaGreat.lvE n lev (Aa d') e=Go.Proofs.YtkidaindpahefaaGreat.lvE n lev (Aa d) e:=by
 unfold Go.Proofs.YtkidaindpahefaaGreat.lvE;rcases he with he|⟨b,hb⟩
 ·have:Aa d' 0=Option.none:=by rw[r.nodes,h0];simp
  rw[he,h0,this]
 . rw[hb,(r.sub hb).1]
theorem AJ.ok (r:AJ d d')(hk:Ak d V):Ak d' V:=by
 have g0:∀ e,okE (Aa d') e->Go.Proofs.YtkidaindpahefaaGreat.lvE d.vars.length (levN d) (Aa d') e=Go.Proofs.YtkidaindpahefaaGreat.lvE d.vars.length (levN d) (Aa d) e:=fun e he=>r.lvE hk.dag.none0 he
 refine⟨?_,⟨?_,?_,fun i b hb=>by rw[r.counts];exact hk.live.has i b (r.sub hb).1⟩,by rw[r.vars];exact r.tab,by rw[r.counts];exact hk.clen,by rw[r.vars];exact hk.small,by rw[r.vars,r.lev];exact hk.inv,by rw[r.vars,r.lev];exact hk.vlt⟩
 . rw[r.vars,r.lev];exact hk.dag.restrict (Aa d') (fun i b h=>(r.sub h).1) (fun i b h=>⟨r.kid hk h (.inl rfl),r.kid hk h (.inr rfl)⟩)
 . rw[r.alen,r.cnt];exact(hk.live.cnt.collect (Aa d') r.nodes).congr (fun x b hb=>r.ext x b hb)
 ·rw[r.dead];unfold Bc;rw[B6 (g:=fun _=>0) _ (fun i _=>?_),Dr]
  . rfl
  ·unfold dead1;cases hb:Aa d' i with
   | none=>rfl
   | some b=>have:=(r.sub hb).2;rw[r.cnt];simp;omega
end
attribute [local go_sem] XT
theorem ID {F:Fence}{fu:Nat}(T e:TypeId)(size bytes:Nat)(z:Value)(hT:prog.underlying T=some (.slice e))(he:(prog.info? e).map (fun i=>(i.zero,i.size,i.bytes))=some (some z,size,bytes))(hzs:z.cells.size=size)(hsz:0<size)
 {wr:Wd} {ops:Array Oper} {rest:List Oper} {op:Oper} {a:Act} {Q:Exit->Act->Wd->Prop} {W:Wd} (hgd:op.guard=none) (s x:Operand)
 (hop:op.op=.call { callee:=.builtin .append,args:=#[s,x],argTypes:=#[T,T] })
 {o:Own} {r:Role} {v:Value} {n:Nat} {xs:List Value} (hs:a.eval s=v) {N:Nat} (hx:a.eval x=.slice (some (Av N)) 1 1) {news:Array Value}
 (hW:W=wr.alloc (.cells news e)) (hN:N=wr.heap.size) (hl:news.size=size) (h1:∀ u∈news.toList,u.oneCell'=true) (h:RowR o wr r e size v n xs) (hlt:Ab o wr) (hn:n<1000000000) (hb:bytes<=10000)
 (hK:∀ g cap w' o',RowR o' w' r e size (.slice (some (Av g)) (n+1) cap) (n+1) (xs++news.toList)->Chg (· = r) o o' wr w'->Ab o' w'->wpListIn F fu prog ops Q rest (a.put op.dst (.slice (some (Av g)) (n+1) cap)) w'):wpListIn F fu prog ops Q (op::rest) a W:=by
 subst hN;subst hW
 obtain⟨g,cap,w',o',hr,h2,h3,h4⟩:=GN T e op.type size bytes z hT he hzs hsz news hl h1 h hlt hn hb;refine wpListIn_plain hgd fun K g1=>?_
 unfold Oper.wpIn;refine⟨?_,?_⟩
 . simp[Oper.about,hop,resolve,Target.leads,Sem.run_pure]
 . rw[Oper.semAt_plain F _ _ (by rw[hop];intro c g0;cases g0)];simp only[execOp,hop,resolve,invoke,builtin,WG,Sem.run_pure,VZ,List.map_toArray,Wx,XM,hs,hx,hr];exact g1 _ _ (hK g cap w' o' h2 h3 h4)
theorem Gh (w:Wd)(o:Obj):(w.alloc o).drew=w.drew.alloc o:=rfl
theorem Lo {F:Fence}{c:Code}(W1:Wd)(h:∃ A,c.wpIn F n P (fun e a' W'=>e=.normal/\a'=A/\W'=W1) a w/\Q .normal A W1):c.wpIn F n P Q a w:=by
 obtain⟨A,h1,h2⟩:=h;refine wpIn_mono h1 ?_;rintro _ _ _ ⟨rfl,rfl,rfl⟩;exact h2
def B7 (d:Ae)(pre:List Nat):List Nat:=pre.filter (fun i=>decide (Ai d i=0))
structure GatS (d:Ae)(w:Wd)(sb:Nat)(pre:List Nat)(M:Nat->Prop)(W:Wd)(v:Value)(oG:Own):Prop where
 mm:∀ k,M k↔(k=w.heap.size\/k=w.heap.size+1\/oG k=some .slots)
 low:Bw w W
 boxs:W.heap[w.heap.size]?=some (.cells #[Pt sb] 96 (0,0))
 boxg:W.heap[w.heap.size+1]?=some (.cells #[v] 225 (0,0))
 row:RowR oG W .slots 254 5 v (B7 d pre).length ((B7 d pre).flatMap fun i=>rnV (d.pool.nd i))
 lt:Ab oG W
 ge:∀ k r,oG k=some r->r=.slots/\w.heap.size+2<=k
def Gat (d:Ae)(w:Wd)(sb:Nat)(pre:List Nat)(M:Nat->Prop)(W:Wd):Prop:=∃ v oG,GatS d w sb pre M W v oG
theorem GatS.minds (h:GatS d w sb pre M W v oG)(hw:Wr (fun k=>w.heap.size<=k/\¬ M k) W W'):GatS d w sb pre M W' v oG:=by
 have hk:∀ k,k<W.heap.size->M k->W'.heap[k]?=W.heap[k]?:=fun k h1 h2=>hw.keep k h1 (fun e=>e.2 h2)
 have hm:=h.mm
 refine⟨hm,h.low.trans (hw.below (fun k h=>h.1) h.low.size),(hk _ (Vm.1 h.boxs).1 ((hm _).2 (.inl rfl))).trans h.boxs,(hk _ (Vm.1 h.boxg).1 ((hm _).2 (.inr (.inl rfl)))).trans h.boxg,
  h.row.keep (fun g hg=>hk g (h.lt g _ hg) ((hm g).2 (.inr (.inr hg)))) (fun _ h=>h),h.lt.mono hw.size,h.ge⟩
theorem Ra (h:Ai d x=0):B7 d (pre++[x])=B7 d pre++[x]:=by unfold B7;rw[Wl];simp[h]
theorem Rb (h:Ai d x≠0):B7 d (pre++[x])=B7 d pre:=by unfold B7;rw[Wl];simp[h]
theorem GatS.add {W1:Wd}{oG':Own}(h:GatS d w sb pre M W v oG)(hc:Ai d x=0)
 (hr:RowR oG' W1 .slots 254 5 v' ((B7 d pre).length+1) (((B7 d pre).flatMap fun i=>rnV (d.pool.nd i))++rnV (d.pool.nd x))) (hg:Chg (· = .slots) oG oG' W W1) (hl:Ab oG' W1) {n:Nat} (hn:n<=W.heap.size) :
 ∃ M',Gat d w sb (pre++[x]) M' (W1.setCell (Av (w.heap.size+1)) v')/\Wr (fun k=>M k\/n<=k) W (W1.setCell (Av (w.heap.size+1)) v')/\∀ k,M' k->M k\/n<=k:=by
 have none:∀ k,k<w.heap.size+2->oG k=Option.none:=fun k hk=>by
  cases e:oG k with
  | none=>rfl
  | some r=>have:=(h.ge k r e).2;omega
 have g0:w.heap.size+1<W.heap.size:=(Vm.1 h.boxg).1;have k0:=(hg.alien (by omega) (none w.heap.size (by omega))).trans h.boxs;have k1:=(hg.alien g0 (none (w.heap.size+1) (by omega))).trans h.boxg;have ge':∀ k r,oG' k=some r->r=.slots/\w.heap.size+2<=k:=fun k r hk=>by
  by_cases e:oG' k=oG k
  . rw[e] at hk;exact h.ge k r hk
  ·obtain⟨a1,q,a2,a3⟩:=hg.new k e;rw[hk] at a2;cases a2
   exact⟨a3,by omega⟩
 refine⟨fun k=>k=w.heap.size\/k=w.heap.size+1\/oG' k=some .slots,⟨v',oG',⟨fun k=>Iff.rfl,?_,?_,A5 k1 _,?_,hl.mono (by simp[World.setCell]),ge'⟩⟩,?_,fun k hk=>?_⟩
 . have:Bw w W1:=h.low.trans ⟨hg.os,hg.tape,hg.output,hg.size,fun k hk=>hg.alien (VH hk h.low.size) (none k (by omega))⟩;exact this.setCell (p:=⟨w.heap.size+1,0,Option.none⟩) (by show _<=w.heap.size+1;omega) _
 . exact(A0 (by show _≠w.heap.size+1;omega) _).trans k0
 . rw[Ra hc,Vr,WU];simp only[WW,WO,List.flatMap_nil,WM];exact hr.setCell_other (fun e=>by have:=(ge' _ _ e).2;simp at this) _
 . have:Wr (fun k=>M k\/n<=k) W W1:=⟨hg.os,hg.tape,hg.output,hg.size,fun k hk hm=>hg.block k hk fun r hr e=>hm (.inl ((h.mm k).2 (.inr (.inr (by rw[hr,e])))))⟩;exact this.setCell (p:=⟨w.heap.size+1,0,Option.none⟩) (.inl (.inl ((h.mm _).2 (.inr (.inl rfl))))) _
 ·rcases hk with hk|hk|hk
  . exact .inl ((h.mm k).2 (.inl hk))
  . exact .inl ((h.mm k).2 (.inr (.inl hk)))
  ·by_cases e:oG' k=oG k
   . rw[e] at hk;exact .inl ((h.mm k).2 (.inr (.inr hk)))
   . have:=(hg.new k e).1;right;omega
theorem GatS.no (h:GatS d w sb pre M W v oG)(k:Nat)(hk:k<w.heap.size+2):oG k=none:=by
 cases e:oG k with
 | none=>rfl
 | some r=>have:=(h.ge k r e).2;omega
theorem GatS.drew {d:Ae}{w:Wd}{sb:Nat}{pre:List Nat}{M:Nat->Prop}{W:Wd}{v:Value}{oG:Own}(h:GatS d w sb pre M W v oG):GatS d w sb pre M W.drew v oG:=h.minds ((Wr.refl _ W).drew)
def Gi (o:Own)(W2:Wd)(sb:Nat)(d:Ae)(s:BL)(k:Nat)(wr:Wd):Prop:=∃ o1 d1,Ao o1 wr sb d1 s/\Ab o1 wr/\Cy d k d1/\Chg Al o o1 W2 wr
theorem Gi.next {o o1 o2:Own}{W2 wr w3 w4 w4' w5:Wd}{sb:Nat}{d d1:Ae}{s:BL}{k i:Nat}{N:RN}(hs1:Ao o1 wr sb d1 s)(hl1:Ab o1 wr)(hr1:Cy d k d1)(hc1:Chg Al o o1 W2 wr)(hi:(AG d)[k]?=some i)(hN:d1.pool.nd i=N)(hb3:Bw wr w3)
 (ht:AN o1 w4 N.v (s.ts.getD N.v 0) (putF (d1.tab N.v) (N.lo,N.hi) none)) (hct:Chg (· = .tmap N.v) o1 o1 w3 w4) (hl4:Ab o1 w4) (hb:Bw w4 w4')
 (hp:Ap o2 w5 s.pb (d1.pool.give i)) (hcp:Chg (fun r=>r=.pool\/r=.slots\/r=.taken\/r=.free) o1 o2 w4' w5) (hl5:Ab o2 w5):Gi o W2 sb d s (k+1) w5:=by
 have h3:=hs1.below hl1 hb3;have g1:=hl1.mono hb3.size;have h4:=h3.setTab g1 ht hct;have g2:=h4.below hl4 hb;have h5:=g2.setPool (hl4.mono hb.size) hp hcp;have g0:i<d1.pool.at_.length:=(hs1.pool.tk_lt (hr1.at hi).1).2;have e:(fun u=>if u=N.v then putF (d1.tab N.v) (N.lo,N.hi) none else d1.tab u)=(fun u=>if u=N.v then putF (d1.tab u) (N.lo,N.hi) none else d1.tab u):=by
  funext u
  by_cases h:u=N.v
  . subst h;rfl
  . simp[h]
 rw[e] at h5;refine⟨o2,IC d1 i (bnOf N),h5,hl5,?_,hc1.trans ((Chg.of_below hb3 _ o1).trans ((hct.mono ?_).trans ((Chg.of_below hb _ o1).trans (hcp.mono ?_))))⟩
 ·have:=hr1.next hi hs1.pool.len g0 (by
   have h1:=hs1.pool.cnt;have h2:=JN (f:=fun j=>if d1.pool.tk j=true then (1:Int) else 0) (fun j _=>by split<;>omega) g0 (by simp[(hr1.at hi).1]);omega)
  rw[hN] at this;exact this
 . rintro r rfl;exact .inr (.inr (.inr (.inr (.inr (.inr (.inl ⟨_,.inr rfl⟩))))))
 . rintro r h;exact .inr (.inr (.inr (.inr (.inl h))))
theorem EZ {o:Oper}{f:FuncId}{R:Value->Wd->Prop}(hg:o.guard=none)
 (he:(execOp a.eval o).run P w=.ok (.enter f args) w) (hc:Calls P f args w fun e w'=>∃ v,e=.returned v/\R v w') (h:∀ v w',R v w'->Q .normal (a.put o.dst v) w'):A6 P ops Q S true [(some o,true)] a w:=by
 refine Dt hg fun K hK=>?_
 unfold Oper.wp;simp only[he,Oper.upon];exact hc.mono fun e w' ⟨v,h1,h2⟩=>by subst h1;exact hK _ _ (h v w' h2)
abbrev Yd:=@callsIn_wide
theorem Lp {o:Own}(h:A2 o w sb d)(h0:d.dead=0) :
 Cl 215 #[Pt sb] w (Bl (Iv 0) w):=by
 obtain⟨s,h⟩:=h;obtain⟨c0,c1,c2,c3,c4,f0⟩:=cells5 h.blk;rw[h0] at c4;obtain⟨w1,g0⟩:=Ex (w.alloc (.cells #[Pt sb] 96));have g1:Bw w w1:=by rw[g0];exact Af w _
 have cB:w1.cell? (Av w.heap.size)=some (Pt sb):=by rw[g0];exact cell1 (Vq w _)
 have c4':=Cq g1 c4;have HW:Hq (_=w1):=Hd g0.symm;have HB:=Hd g1;clear h c0 c1 c2 c3 c4 f0 g0 g1 h0;refine(Yd (n:=9)).1 ?_;refine callsIn_of_wp_marks func215 rfl trivial ?_;refine wpIn_wide.2 ?_;simp only[ntmps215,WJ,VG,WI,Nat.reduceAdd,Nat.reduceSub,WZ,Xa,Xi,Xf,Wz,Xh];go_upto_region 1 with fail;rw[HW.o];go_wp2_with fail;exact⟨_,results_tmp rfl _ _ _,rfl,HB.o⟩
theorem Lq {o:Own}(h:A2 o w sb d)(hlt:Ab o w)(hk:Ak d V)(h0:d.dead≠0) :
 Cl 215 #[Pt sb] w fun x w'=>x=.returned (Iv d.dead)/\∃ o' d',A2 o' w' sb d'/\Ab o' w'/\AJ d d'/\Chg Al o o' w w':=by
 obtain⟨s,h⟩:=h;obtain⟨c0,c1,c2,c3,c4,f0⟩:=cells5 h.blk;have ko:((d.dead:Int) == 0)=false:=by simpa using h0
 obtain⟨w1,go⟩:=Ex (w.alloc (.cells #[Pt sb] 96));have gM:Bw w w1:=by rw[go];exact Af w _
 have hB:w1.heap[w.heap.size]?=some (.cells #[Pt sb] 96 (0,0)):=by rw[go];exact Vq w _
 have hs1:w1.heap.size=w.heap.size+1:=by rw[go];simp
 obtain⟨w2,g6⟩:=Ex (w1.alloc (.cells #[.slice none 0 0] 225));have gL:Bw w w2:=by rw[g6];exact gM.alloc (by omega) _
 have gO:w2.heap[w.heap.size]?=some (.cells #[Pt sb] 96 (0,0)):=by rw[g6];exact(Wv w1 _ _ (by omega)).trans hB
 have hp:w2.heap[w.heap.size+1]?=some (.cells #[.slice none 0 0] 225 (0,0)):=by rw[g6,<- hs1];exact Vq w1 _
 have gG:w2.heap.size=w.heap.size+2:=by rw[g6];simp[hs1]
 have cB1:=cell1 hB;have cB2:=cell1 gO;have cS1:=Cq gM c4;have cS2:=Cq gL c1;have HW1:Hq (_=w1):=Hd go.symm;have hy:Hq (_=w2):=Hd g6.symm;have HB2:=Hd gL;have HH:=Hd h;have HE:=Hd (Yd.1 (QV Fence.wide 9 trivial rfl s.pb w2));clear h c0 c1 c2 c3 c4 f0 go g6 gM gL;refine(Yd (n:=9)).1 ?_;refine callsIn_of_wp_marks func215 rfl trivial ?_;refine wpIn_wide.2 ?_;simp only[ntmps215,WJ,VG,WI,Nat.reduceAdd,Nat.reduceSub,WZ,Xa,Xi,Xf,Wz,Xh];go_upto_region 1 with fail;rw[HW1.o];go_upto_region 4 with fail;rw[hy.o];go_wp2_with fail;refine HE.o.mono ?_;rintro x w3 ⟨rfl,gn⟩;go_wp2_with fail;obtain⟨w3',g4⟩:=Ex (w2.alloc (.cells #[Pt s.pb] 147));rw[<- g4];have kk:w3'.heap.size=w.heap.size+3:=by rw[g4];simp[gG]
 have g5:Bw w w3':=by rw[g4];exact HB2.o.alloc (by omega) _
 have hu:w3'.heap[w.heap.size]?=some (.cells #[Pt sb] 96 (0,0)):=by rw[g4];exact(Wv w2 _ _ (by omega)).trans gO
 have ho:w3'.heap[w.heap.size+1]?=some (.cells #[.slice none 0 0] 225 (0,0)):=by rw[g4];exact(Wv w2 _ _ (by omega)).trans hp
 have hn:w3'.cell? (Av (w.heap.size+2))=some (Pt s.pb):=by rw[g4,<- gG];exact cell1 (Vq w2 _)
 have gi:Hq (Ao o w sb d s):=HH;have g7:=Hd hlt;have HK:=Hd hk;have HG:=Hd (QW Fence.wide 8 trivial trivial trivial rfl (by omega) (w.heap.size+2) w.heap.size s.pb HH.o.pool hlt (Vo _) w3' g5 (by omega) (by omega) hn);clear g4 hB gO hp cB1 cB2 cS1 cS2 HE HW1 hy hs1 gG hn;refine(wpIn_wide (n:=9)).1 ?_;refine K3 rfl (by omega) (gf:=266) (lb:=#[Pt (w.heap.size+2)]) rfl trivial (XQ func266 (by kernel_rfl) rfl) HG.o (by omega) (by rintro k rfl;omega) (fun x=>rfl)
  (Gat d w sb) ?_ ?_ (fun k=>k=w.heap.size\/k=w.heap.size+1) (by rintro k rfl h;omega) ⟨.slice none 0 0,fun _=>none,(⟨fun k=>by simp,g5,hu,ho,RowR.nil _ _ _ _ _,fun k r h=>(by cases h),fun k r h=>(by cases h)⟩:GatS d w sb [] _ w3' (.slice none 0 0) (fun _=>none))⟩
  (fun x a' W W1=>∃ Bn,W.heap.size<=Bn/\W1.heap[Bn]?=some (.cells #[Iv (d.pool.nd x).id,Iv (d.pool.nd x).v,Iv (d.pool.nd x).lo,Iv (d.pool.nd x).hi,Iv (d.pool.nd x).refs] 254 (0,0))/\a'={ tmps:=#[Value.pointer (some { block:=sb,off:=0 }),Value.pointer (some { block:=w.heap.size,off:=0 }),Value.int IntKind.i64 0,Value.pointer (some { block:=w.heap.size+1,off:=0 }),Value.pointer (some { block:=Bn,off:=0 }),undef,undef,Value.pointer (some { block:=sb,off:=0 }),Value.bool false,Value.bool false,Value.pointer (some { block:=sb,off:=0 }),Value.pointer (some { block:=sb,off:=0 }),Value.pointer (some { block:=sb,off:=4 }),Value.int IntKind.i64 ↑d.dead,Value.bool false,Value.bool false,Value.pointer (some { block:=sb,off:=0 }),Value.pointer (some { block:=sb,off:=0 }),Value.pointer (some { block:=sb,off:=1 }),Value.pointer (some { block:=s.pb,off:=0 }),Value.func (Fn.func 266) #[] #[Value.pointer (some { block:=w.heap.size+2,off:=0 })],Am (d.pool.nd x),undef,undef,undef,undef,undef,undef,undef,undef,undef,undef,undef,undef,undef,undef,undef,undef,undef,undef,undef,undef,undef,undef,undef,undef,undef,undef,undef,undef,undef,undef,undef,undef,undef,undef,undef,undef,undef,undef,undef,undef,undef,undef,undef,undef,undef],defers:=[] }) ?_ ?_ ?_ ?_
 ·rintro pre M W ⟨v,oG,hS⟩ k hk;rcases(hS.mm k).1 hk with rfl|rfl|hg
  . exact⟨Vo _,(Vm.1 hS.boxs).1⟩
  . exact⟨by omega,(Vm.1 hS.boxg).1⟩
  . have:=(hS.ge k _ hg).2;exact⟨by omega,hS.lt k _ hg⟩
 . rintro pre M W W' ⟨v,oG,hS⟩ hw;exact⟨v,oG,hS.minds hw⟩
 . rintro x a' W W1 W2 l hl ⟨Bn,h1,h2,h3⟩ hw;exact⟨Bn,h1,(hw.keep Bn (Vm.1 h2).1 (by omega)).trans h2,h3⟩
 ·intro l pre x M W K hI hK;simp only[Am]
  gi_wp2
  exact hK _ _ ((Wr.refl _ W).alloc _) ⟨W.heap.size,Vo _,Vq W _,rfl⟩
 ·rintro l pre x a' M W0 W ⟨v,oG,hS⟩ ⟨Bn,kp,hb,rfl⟩ hX hs1 g9;obtain⟨suf,g9⟩:=g9;have hx:d.pool.tk x=true:=Ll g9;have gp:=gi.o.below g7.o hS.low;obtain⟨q0,q1,q2,q3,q4,_⟩:=cells5 gp.blk;obtain⟨n0,n1,n2,n3,n4,_⟩:=cells5 hb;have hid:=gp.pool.id x hx;rw[hid] at n0;have gh:Aa d x=some (bnOf (d.pool.nd x)):=by unfold Aa Ad.get;rw[Vs hx];rfl
  have gD:x<d.counts.length:=HK.o.live.has x _ gh;obtain⟨gc,cc,gV,_⟩:=gp.counts.shape (by omega);have gm:=gp.counts;rw[gV] at gm q3;have h9:=gm.cell x (by simpa using gD);have gE:(d.counts.map nat64)[x]?=some (Iv (Ai d x:Nat)):=by
   rw[WN,VD gD];simp[nat64,Ai,List.getD,gD]
  rw[gE] at h9;have kh:(x:Int)<d.counts.length:=by omega
  have cb:=cell1 hS.boxs;have cg:=cell1 hS.boxg;have HS:=Hd hS;have kr:=Hd hb;have hJ:=Hd g9;have kc:=Hd hid;have kl:prog.follows .mixedOrders=true:=by kernel_rfl
  clear gp gm gE gV g9 hS hid gh
  by_cases hc:Ai d x=0
  ·rw[hc] at h9;have gl:(B7 d pre).length<1000000000:=by
    have h1:=gi.o.below g7.o HS.o.low;have h2:=h1.pool.top;have h3:=h1.pool.room;have h4:(B7 d pre).length<=(BE d.pool).length:=by rw[<- hJ.o];unfold B7;refine Vx (Wk _ _) ?_;simp
    have h5:(BE d.pool).length<=d.pool.at_.length:=by unfold BE BX;refine Vx (Wk _ _) ?_;simp
    omega
   have hQ:=Hd gl;have HC:=Hd hc;clear gl
   gi_wp2
   refine Lo W.drew ?_;apply Exists.intro;refine⟨?_,?_⟩
   ·gi_region_o
    all_goals exact⟨rfl,rfl,rfl⟩
   gi_wp2_with (gi_at_builtin
                rw[Gh];refine ID (wr:=W.drew) 225 254 5 40 _ underlying225 FE rfl (by decide) rfl _ _ rfl rfl rfl rfl rfl rfl (by simp[Value.oneCell']) HS.o.drew.row HS.o.drew.lt hQ.o (by decide) ?_;intro g1 k1 w1 o1 g2 g0 g3;have gv:=Hd g2;have g8:=Hd g0;have gj:=Hd g3;clear g2 g0 g3 q0 q1 q2 q3 q4 cb;have gy:=(g8.o.alien (Vm.1 HS.o.boxg).1 (HS.o.no _ (by omega))).trans HS.o.boxg;have cg1:=cell1 gy;have fz:∀ k,w1.frozen? ⟨w.heap.size+1,k,none⟩=false:=fun k=>by simp[World.frozen?,gy]
                clear cg gy)
   have hH:=HS.o.drew.add HC.o (W1:=w1) (v':=.slice (some (Av g1)) ((B7 d pre).length+1) k1) (by
    have e:rnV (d.pool.nd x)=[Iv (x:Nat),Iv (d.pool.nd x).v,Iv (d.pool.nd x).lo,Iv (d.pool.nd x).hi,Iv (d.pool.nd x).refs]:=by unfold rnV;rw[kc.o]
    rw[e];exact gv.o) g8.o gj.o hX
   obtain⟨M',a1,a2,a3⟩:=hH;exact⟨M',a1,Wr.trans ((Wr.refl (fun _=>False) W).drew) a2 (fun _ _ e=>e.elim) (fun _ _ e=>e),a3⟩
  ·have g0:((Ai d x:Int) == 0)=false:=by simpa using hc
   gi_wp2
   refine Lo W.drew ?_;apply Exists.intro;refine⟨?_,?_⟩
   ·gi_region_o
    all_goals exact⟨rfl,rfl,rfl⟩
   gi_wp2
   exact⟨M,⟨v,oG,by have:=HS.o.drew;exact⟨this.mm,this.low,this.boxs,this.boxg,by rw[Rb hc];exact this.row,this.lt,this.ge⟩⟩,(Wr.refl _ W).drew,fun k hk=>.inl hk⟩
 ·rintro D M W2 hD k4 ⟨v,oG,hS⟩ _ g6 ht;have HS:=Hd hS;have hA:=Hd ht;have cg:=cell1 hS.boxg;obtain⟨ag,cpg,rfl,_⟩:=hS.row.slice;clear hS ht k4 g6 HG hu ho g5;go_wp2_with fail;have gr:∀ k i,(AG d)[k]?=some i->∃ g,ag=some (Av g)/\o g=none/\∀ j u,(rnV (d.pool.nd i))[j]?=some u->W2.cell? (Aw g (k*5+j))=some u:=by
   intro k i hi;have km:k<(AG d).length:=(Wf.1 hi).1;obtain⟨g,cp,he,gd,_⟩:=HS.o.row.shape (by show 0<(AG d).length;omega);cases he;refine⟨g,rfl,?_,fun j u hj=>?_⟩
   . have:=(HS.o.ge g _ gd).2;exact g7.o.none (by omega)
   ·have h5:j<5:=by have:=(Wf.1 hj).1;simpa [rnV] using this
    have hf:=DD (fun i=>rnV (d.pool.nd i)) 5 (fun _=>rfl) (AG d) k j i hi h5;have gl:((AG d).flatMap fun i=>rnV (d.pool.nd i)).length=(AG d).length*5:=Cb _ 5 (fun _=>rfl) _;have hc:=HS.o.row.cell (k*5+j) (by show _<((AG d).flatMap fun i=>rnV (d.pool.nd i)).length;rw[gl];omega);rw[hc];exact hf.trans hj
  have kd:=Hd gr;have gP:Hq ((B7 d (BE d.pool)).length=(AG d).length):=Hd rfl;have gw:Hq (o w.heap.size=none/\o (w.heap.size+1)=none):=Hd ⟨g7.o.none (by omega),g7.o.none (by omega)⟩;have gk:=gi.o.below g7.o HS.o.low;have gH:Ab o W2:=g7.o.mono HS.o.low.size;have hM:=Hd gk;have hP:=Hd gH;have gI:w.heap.size<W2.heap.size:=(Vm.1 HS.o.boxs).1;have gY:w.heap.size+1<W2.heap.size:=(Vm.1 HS.o.boxg).1;have hG:(B7 d (BE d.pool)).length<=1048577:=by
   show (AG d).length<=_
   have h2:=gk.pool.top;have h3:=gk.pool.room;have h5:(AG d).length<=d.pool.at_.length:=by unfold AG BE BX;refine Vx (Wk _ _) (Vx (Wk _ _) ?_);simp
   omega
  clear gr cg gk gH;obtain⟨m,hm⟩:=Ex ((B7 d (BE d.pool)).length);rw[<- hm] at hG gP ⊢;have HM:=Hd hm;clear hm
  go_loopw [37] (fun i wr=>∃ k:Nat,k<=m/\i=Iv k/\Gi o W2 sb d s k wr) (fun i _=>m-(intOf i).toNat)
  case atStart=>exact⟨0,Vu _,rfl,o,d,hM.o,hP.o,Cy.start HK.o.tab,Chg.refl _ _ _⟩
  case round =>
   obtain⟨k,hk,rfl,h8⟩:=hrel;have gJ:=h8;obtain⟨o1,d1,hs1,g3,g2,g0⟩:=h8
   by_cases kg:k<m
   ·obtain⟨i,hi⟩:∃ i,(AG d)[k]?=some i:=⟨_,VD (by have:=gP.o;omega)⟩;obtain⟨gz,gq⟩:=g2.at hi;obtain⟨g,k0,gd,gg⟩:=kd.o k i hi;subst k0;obtain⟨N,hN⟩:=Ex (d.pool.nd i);rw[<- hN] at gg gq;have e0:=g0.cell (gg 0 _ rfl) gd;have e1:=g0.cell (gg 1 _ rfl) gd;have e2:=g0.cell (gg 2 _ rfl) gd;have e3:=g0.cell (gg 3 _ rfl) gd;have e4:=g0.cell (gg 4 _ rfl) gd;rw[Xj] at e0;have cb:=cell1 ((g0.alien gI gw.o.1).trans HS.o.boxs);have kn:(k:Int)<m:=by omega
    obtain⟨w3,gn⟩:=Ex (wr.alloc (.cells #[Iv N.id,Iv N.v,Iv N.lo,Iv N.hi,Iv N.refs] 254));obtain⟨b6,gK⟩:=Ex wr.heap.size;have g5:Bw wr w3:=by rw[gn];exact Af _ _
    have gh:w3.heap[b6]?=some (.cells #[Iv N.id,Iv N.v,Iv N.lo,Iv N.hi,Iv N.refs] 254 (0,0)):=by rw[gn,gK];exact Vq _ _
    have hE:o1 b6=none:=g3.none (by omega);have hO:Hq (o1 w.heap.size=none):=Hd (g0.alien' gI gw.o.1);have k6:Hq (_=w3):=Hd gn.symm;have kf:Hq (_=b6):=Hd gK.symm;have HN:=Hd hN;have hid:N.id=i:=by rw[<- gq];exact hs1.pool.id i gz
    have hd:Aa d1 i=some ⟨N.v,N.lo,N.hi⟩:=by unfold Aa Ad.get;rw[Vs gz,gq];rfl
    have hv:N.v<d1.vars.length:=by rw[g2.vars];exact HK.o.dag.var i ⟨N.v,N.lo,N.hi⟩ (by unfold Aa Ad.get;rw[Vs (IB ((Wf.1 hi).2 ▸ Vv _)).1,<- hN];rfl)
    have h7:d1.tab N.v (N.lo,N.hi)=some i:=(g2.tab N.v (by rw[<- g2.vars];exact hv) _ _ _).2 hd;have ga:=hs1.below g3 g5;have gB:=g3.mono g5.size;obtain⟨gt,ct,gT,hZ,gU,ki⟩:=ga.tabAt hv;obtain⟨q0,q1,q2,q3,q4,_⟩:=cells5 ga.blk;rw[gT] at q2;obtain⟨n0,n1,n2,n3,n4,_⟩:=cells5 gh;have cb3:=Cq g5 cb;have hU:(N.v:Int)<s.ts.length:=by omega
    have hT:=Hd (JU o1 N.v (s.ts.getD N.v 0) (d1.tab N.v) N.lo N.hi i w3.drew ((ga.below gB (An w3 1)).tab N.v gU) (gB.mono (An w3 1).size) h7);have gC:=Hd hs1;have gj:=Hd g3;have gv:=Hd g2;have g8:=Hd g0;have HI:=Hd hi;have ka:=Hd gq;have hC:=Hd g5;have kq:=Hd gh;have k7:=Hd gz;have hR:=Hd hid;have hL:=Hd ga;have hz:=Hd gB;clear gg gJ hs1 g3 g2 g0 hi gq g5 gh gz hid hd hv h7 ga gB gT gn gK hN gU;go_upto_region 11 with fail;rw[k6.o,kf.o];refine AD (fun W:Wd=>W=w3.drew) true 12 [(0,false),(1,false),(2,false),(3,false),(4,false),(5,false),(6,false),(7,false),(8,false),(9,false),(10,false),(11,false),(12,true)] (by kernel_rfl) (by kernel_rfl) rfl ?_;simp only[planned,AC]
    iterate 12
     refine As rfl ?_;apply Exists.intro;refine⟨fun w' hw=>?_,?_⟩
     . subst hw;go_simp;rfl
     simp only[Ac]
    refine EZ rfl (by go_simp) (hT.o.mono (R':=fun e w'=>∃ v,e=.returned v/\(v=Iv 0/\AN o1 w' N.v (s.ts.getD N.v 0) (putF (d1.tab N.v) (N.lo,N.hi) none)/\Chg (· = .tmap N.v) o1 o1 w3.drew w'/\Ab o1 w')) (fun e w' h=>⟨_,h.1,rfl,h.2⟩)) ?_;rintro _ w4 ⟨rfl,gF,gu,gA⟩;simp only[Ac];refine C6 ?_;have gx:=(hL.o.below hz.o (An w3 1)).setTab (hz.o.mono (An w3 1).size) gF gu;have cb4:=gu.cell (w:=w3.drew) (p:=Av w.heap.size) cb3 (hO.o);have n0':=gu.cell (w:=w3.drew) (p:=Av b6) n0 hE;obtain⟨p0,p1,p2,p3,p4,_⟩:=cells5 gx.blk;rw[hR.o] at n0';have gS:=Hd (Ol o1 s.pb d1.pool i w4.drew (gx.below gA (An w4 1)).pool (gA.mono (An w4 1).size) k7.o);have k8:=Hd gF;have ke:=Hd gu;have kb:=Hd gA;clear gF gu gA gx n0 n1 n2 n3 n4 q0 q1 q2 q3 q4 cb3 cb e0 e1 e2 e3 e4 hZ hU;go_upto_region 12 with fail;refine AD (fun W:Wd=>W=w4.drew) true 6 [(0,false),(1,false),(2,false),(3,false),(4,false),(5,false),(6,true)] (by kernel_rfl) (by kernel_rfl) rfl ?_;simp only[planned,AC]
    iterate 6
     refine As rfl ?_;apply Exists.intro;refine⟨fun w' hw=>?_,?_⟩
     . subst hw;go_simp;rfl
     simp only[Ac]
    refine EZ rfl (by go_simp) (gS.o.mono (R':=fun e w'=>∃ v,e=.returned v/\(v=Iv 0/\∃ o',Ap o' w' s.pb (d1.pool.give i)/\Chg (fun r=>r=.pool\/r=.slots\/r=.taken\/r=.free) o1 o' w4.drew w'/\Ab o' w')) (fun e w' h=>⟨_,h.1,rfl,h.2⟩)) ?_;rintro _ w5 ⟨rfl,o2,gX,ha,gZ⟩;simp only[Ac];refine C6 ?_;have k9:=Hd (Gi.next gC.o gj.o gv.o g8.o HI.o ka.o (hC.o.trans ((An w3 1).mono hC.o.size)) k8.o ke.o kb.o (An w4 1) gX ha gZ);clear gX ha gZ p0 p1 p2 p3 p4 cb4 n0' gY;go_wp2_with fail;go_roundw
    case rel=>exact⟨k+1,by omega,by go_num,k9.o⟩
    case measure=>simp[intOf];omega
   ·obtain rfl:k=m:=by omega
    have hh:=(g0.alien gI gw.o.1).trans HS.o.boxs;have h6:=(g0.alien gY gw.o.2).trans HS.o.boxg;have cb:=cell1 hh;have cg:=cell1 h6;obtain⟨q0,q1,q2,q3,q4,qf⟩:=cells5 hs1.blk;have gC:=Hd hs1;have gj:=Hd g3;have gv:=Hd g2;have g8:=Hd g0;have kj:sb≠w.heap.size+1:=fun e=>by have h1:=gw.o.2;have h2:=gi.o.own;rw[e] at h2;rw[h1] at h2;cases h2
    clear gJ hs1 g3 g2 g0 hh h6;go_wp2_with fail;have gN:o D=none:=g7.o.none (by omega);have hq:D<W2.heap.size:=(Vm.1 hA.o).1;have k3:=(g8.o.alien hq gN).trans hA.o;have k5:o1 D=none:=g8.o.alien' hq gN;have hW:D≠sb:=by rintro rfl;have:=gi.o.own;rw[gN] at this;cases this
    have hY:k=(AG d).length:=gP.o;refine⟨by simp,.inl ⟨D,_,rfl,run_takeDeferred ((A0 hW _).trans k3),?_⟩⟩;have hF:Ao o1 (wr.setCell (Aw sb 4) (Iv 0)) sb (d1.cd d1.counts 0) s:=gC.o.setDead gj.o 0;have gR:AJ d (d1.cd d1.counts 0):=(hY ▸ gv.o:Cy d (AG d).length d1).done HK.o.live (fun i hi=>(gi.o.pool.tk_lt hi).2);have gQ:A2 o1 ((wr.setCell (Aw sb 4) (Iv 0)).putObj D (.deferred none)) sb (d1.cd d1.counts 0) :=
     A2.keepR ⟨s,hF⟩ (fun g r hg _=>Ww (by rintro rfl;rw[k5] at hg;cases hg)) (fun _ _ h=>h)
    refine⟨_,results_tmp rfl _ _ _,?_,o1,_,gQ,gj.o.mono (by simp[World.setCell]),gR,?_⟩
    ·show Ending.returned (Iv ((B7 d (BE d.pool)).length:Nat))=_
     have:(B7 d (BE d.pool)).length=d.dead:=Ln HK.o.live;rw[this]
    . have hc:=(Chg.of_below HS.o.low Al o).trans (g8.o.setCell (p:=Aw sb 4) (r:=.store) gC.o.own (.inl rfl) (Iv 0));exact⟨hc.os,hc.tape,hc.output,by have:=hc.size;simpa [World.setCell] using this,fun k hk hr=>(Ww (by omega)).trans (hc.block k hk hr),hc.ext,hc.new⟩
structure ChgX (C:Nat->Prop)(o o':Own)(w w':Wd):Prop where
 os:w'.os=w.os
 tape:w'.tape=w.tape
 output:w'.output=w.output
 size:w.heap.size<=w'.heap.size
 block:∀ k,k<w.heap.size->o k=none->¬ C k->w'.heap[k]?=w.heap[k]?
 ext:∀ k r,o k=some r->o' k=some r
 new:∀ k,o' k≠o k->w.heap.size<=k
abbrev NoB:Nat->Prop:=fun _=>False
section
variable {D:Nat->Prop}{o:Own}
theorem ChgX.of_chg (h:Chg R o o' w w')(C:Nat->Prop):ChgX C o o' w w':=⟨h.os,h.tape,h.output,h.size,fun _ hk ho _=>h.alien hk ho,h.ext,fun k hk=>(h.new k hk).1⟩
theorem ChgX.of_wr (h:Wr D w w')(o:Own)(hD:∀ k,k<w.heap.size->D k->C k):ChgX C o o w w':=⟨h.os,h.tape,h.output,h.size,fun k hk _ hc=>h.keep k hk (fun e=>hc (hD k hk e)),fun _ _ h=>h,fun _ h=>(h rfl).elim⟩
theorem ChgX.of_below (h:Bw w w')(o:Own)(C:Nat->Prop):ChgX C o o w w':=ChgX.of_wr (Wr.of_below h NoB) o (fun _ _ h=>h.elim)
theorem ChgX.none' (h:ChgX C o o' w w')(hk:k<w.heap.size)(ho:o k=none):o' k=none:=by
 by_cases e:o' k=o k
 . rw[e];exact ho
 . have:=h.new k e;omega
theorem ChgX.trans (h:ChgX C o o' w w')(h':ChgX D o' o'' w' w'')(hD:∀ k,k<w.heap.size->D k->C k):ChgX C o o'' w w'':=by
 refine⟨h'.os.trans h.os,h'.tape.trans h.tape,h'.output.trans h.output,Vx h.size h'.size,fun k hk ho hc=>?_,fun k r hr=>h'.ext k r (h.ext k r hr),fun k hk=>?_⟩
 . exact(h'.block k (VH hk h.size) (h.none' hk ho) (fun e=>hc (hD k hk e))).trans (h.block k hk ho hc)
 ·by_cases e:o' k=o k
  . have:=h'.new k (by rw[e];exact hk);exact Vx h.size this
  . exact h.new k e
theorem ChgX.cell (h:ChgX C o o' w w'){p:Addr}{v:Value}(hc:w.cell? p=some v)(hb:o p.block=none)(hn:¬ C p.block):w'.cell? p=some v :=
 (Wm (w:=w) (h.block p.block (X8 w p hc) hb hn)).trans hc
theorem ChgX.below0 (h:ChgX NoB (fun _=>none) o w w'):Bw w w':=⟨h.os,h.tape,h.output,h.size,fun k hk=>h.block k hk rfl (fun e=>e)⟩
theorem ChgX.lower (h:ChgX C (fun _=>none) o w w')(h':ChgX D o o' w' w'')(hD:∀ k,D k->w.heap.size<=k):ChgX C (fun _=>none) o' w w'':=h.trans h' (fun k hk e=>by have:=hD k e;omega)
end
structure CM (C:Nat->Prop)(K:Law)(o:Own)(w:Wd)(mb:Nat)(m:ManD)(V:Nat->BF)(o':Own)(w':Wd)(m':ManD)(V':Nat->BF):Prop where
 is:Ba (K m'.d V') o' w' mb m'
 lt:Ab o' w'
 chg:ChgX C o o' w w'
 ok:Ak m'.d V'
 ext:Ext m.d V m'.d V'
 hs:m'.hs=m.hs
 next:m'.next=m.next
theorem Step.toX {o:Own}(h:Step K o w mb m V o' w' m' V')(C:Nat->Prop):CM C K o w mb m V o' w' m' V':=⟨h.is,h.lt,ChgX.of_chg h.chg C,h.ok,h.ext,h.hs,h.next⟩
theorem Rc (h:Ck m)(ext:Ext m.d V m'.d V')(ok:Ak m'.d V')(e1:m'.hs=m.hs)(e2:m'.next=m.next):Ck m':=by
 refine⟨by rw[e1];exact h.nodup,by rw[e1];exact h.zero,by rw[e1];exact h.one,by rw[e1,e2];exact h.lt,by rw[e2];exact h.next,fun p hp=>?_,by rw[e1,e2];exact h.len,fun i b hb=>?_⟩
 . rw[e1] at hp;exact ext.ok (h.ok p hp)
 ·rw[e1];cases hn:Aa m.d i with
  | some b0=>rw[ext.ext i b0 hn];exact h.refs i b0 hn
  | none =>
    rw[ext.ext0 i hn];have hi:i≠0:=by rintro rfl;rw[ok.dag.none0] at hb;cases hb
    have:AP m.hs i=0:=by
     unfold AP;rw[List.length_eq_zero_iff,List.filter_eq_nil_iff];intro p hp;have ho:=h.ok p hp;simp only[Wu,WB,beq_iff_eq,not_and];rintro _ rfl;rcases ho with h0|⟨b1,g0⟩
     . exact hi h0
     . rw[hn] at g0;cases g0
    rw[this];rfl
structure SatE (K:Law)(n:Nat)(Od:List Nat->Prop)(room:Nat)(w0:Wd)(mb:Nat)(fs:List (Int×BF))(nx:Int)(w:Wd)(o:Own)(m:ManD)(V:Nat->BF):Prop where
 is:Ba (K m.d V) o w mb m
 lt:Ab o w
 ok:El m V
 vars:m.d.vars.length=n
 od:Od m.d.vars
 room:m.d.pool.room=room
 next:m.next=nx
 hs:m.hs.map (fun p=>(p.1,ef V p.2))=fs
 chg:ChgX NoB (fun _=>none) o w0 w
section
variable {o:Own}
theorem SatE.find (h:SatE K n Od room w0 mb fs nx w o m V){k:Int}(hk:(k,F)∈fs):∃ f,(k,f)∈m.hs/\ef V f=F:=by
 rw[<- h.hs] at hk;obtain⟨p,hp,e⟩:=Vz.1 hk;cases e;exact⟨p.2,hp,rfl⟩
theorem SatE.none0 (h:SatE K n Od room w0 mb fs nx w o m V)(hk:k<w0.heap.size):o k=none:=h.chg.none' hk rfl
abbrev X6:=@List.map_congr_left
theorem Lr {hs:List (Int×Nat)}(hok:∀ p∈hs,okE (Aa d) p.2)(hv:∀ i,(i=0\/∃ b,Aa d i=some b)->V' i=V i):hs.map (fun p=>(p.1,ef V' p.2))=hs.map (fun p=>(p.1,ef V p.2)):=by
 refine X6 fun p hp=>?_
 have e:ef V' p.2=ef V p.2:=by
  funext ρ;unfold ef;rw[hv (p.2/2) (hok p hp)]
 rw[e]
theorem SatE.withOd {Od':List Nat->Prop}(h:SatE K n Od room w0 mb fs nx w o m V)(hO:Od' m.d.vars):SatE K n Od' room w0 mb fs nx w o m V :=
 ⟨h.is,h.lt,h.ok,h.vars,hO,h.room,h.next,h.hs,h.chg⟩
theorem SatE.step (h:SatE K n Od room w0 mb fs nx w o m V)(s:CM C K o w mb m V o' w' m' V')(hC:∀ k,C k->w0.heap.size<=k):SatE K n Od room w0 mb fs nx w' o' m' V' :=
 ⟨s.is,s.lt,⟨s.ok,Rc h.ok.handles s.ext s.ok s.hs s.next⟩,by rw[s.ext.vars];exact h.vars,by rw[s.ext.vars];exact h.od,by rw[s.ext.room];exact h.room,s.next.trans h.next,
  by rw[s.hs,Lr h.ok.handles.ok s.ext.val];exact h.hs,h.chg.lower s.chg hC⟩
theorem SatE.other (h:SatE K n Od room w0 mb fs nx w o m V)(hx:Wr C w w')(hC:∀ k,k<w.heap.size->C k->w0.heap.size<=k/\o k=none):SatE K n Od room w0 mb fs nx w' o m V:=by
 obtain⟨s,hm⟩:=h.is;refine⟨⟨s,hm.keep (fun g r hg=>hx.keep g (h.lt g r hg) (fun e=>?_)) (fun _ _ h=>h)⟩,h.lt.mono hx.size,h.ok,h.vars,h.od,h.room,h.next,h.hs,h.chg.trans (ChgX.of_wr (C:=fun k=>w0.heap.size<=k) hx o (fun k hk e=>(hC k hk e).1)) (fun k hk e=>by omega)⟩;have:=(hC g (h.lt g r hg) e).2;rw[hg] at this;cases this
theorem SatE.below (h:SatE K n Od room w0 mb fs nx w o m V)(hb:Bw w w'):SatE K n Od room w0 mb fs nx w' o m V:=h.other (Wr.of_below hb NoB) (fun _ _ e=>e.elim)
theorem SatE.gave (h:SatE K n Od room w0 mb fs nx w o m V){r:Nat}(g:Gave K o w mb m V r o' w' m'):SatE K n Od room w0 mb (fs++[(nx,ef V r)]) (nx+1) w' o' m' V :=
 ⟨g.is,g.lt,g.ok,by rw[g.vars];exact h.vars,by rw[g.vars];exact h.od,by rw[g.room];exact h.room,by rw[g.next,h.next],by rw[g.hs,VK,h.hs,<- h.next];rfl,h.chg.lower (ChgX.of_chg g.chg NoB) (fun _ e=>e.elim)⟩
theorem Ls (h:Ck m)(hk:Ak m.d V)(r:AJ m.d d'):Ck { m with d:=d' }:=by
 have g1:∀ p∈m.hs,okE (Aa d') p.2:=by
  intro p hp;rcases h.ok p hp with h0|⟨b,hb⟩
  . exact .inl h0
  ·by_cases h1:1<p.1
   ·refine .inr ⟨b,?_⟩;rw[r.nodes,Vs]
    . exact hb
    ·refine hk.live.cnt.pos_of_ext hb ?_;rw[h.refs _ _ hb];have:0<AP m.hs (p.2/2):=by
      unfold AP;refine XD (WD.2 ⟨hp,?_⟩);simp[h1]
     omega
   ·refine .inl ?_;have g2:=h.lt p hp;have hu:∀ q∈m.hs,q.1=p.1->q=p:=by
     intro q hq e;have g0:=h.nodup;have h1:=DK (l:=encH m.hs) (Ep g0) (Vz.2 ⟨q,hq,rfl⟩);have h2:=DK (l:=encH m.hs) (Ep g0) (Vz.2 ⟨p,hp,rfl⟩);rw[e,h2] at h1;have e2:(p.2:Int)=(q.2:Int):=by injection h1 with h1;injection h1
     exact Prod.ext e (by omega)
    rcases(by omega:p.1=0\/p.1=1) with e|e
    . rw[<- hu _ h.zero e.symm];rfl
    . rw[<- hu _ h.one e.symm];rfl
 exact⟨h.nodup,h.zero,h.one,h.lt,h.next,g1,h.len,fun i b hb=>by rw[r.ext i b hb];exact h.refs i b (r.sub hb).1⟩
end
theorem wclear {o:Own}{s:ManW}(h:SatE K n Od room w0 mb fs nx w o m V)(hs:A7 (K m.d V) o w mb m s)(G:Phi) :
 Cl 159 #[Pt s.me] w fun x w'=>x=.returned (.tuple #[])/\A7 G o w' mb m s/\Chg (· = .entries) o o w w'/\Ab o w':=by
 refine(OF o s.me (K m.d V) G w hs.memo h.lt).mono ?_;rintro x w' ⟨h1,h2,h3,h4⟩;exact⟨h1,hs.setMemo h.lt h2 (h3.mono fun r e=>.inr e),h3,h4⟩
theorem Lt {o:Own}(h:SatE K n Od room w0 mb fs nx w o m V) :
 Cl 244 #[Pt mb] w fun x w'=>x=.returned (Iv m.d.dead)/\∃ o' d',SatE K n Od room w0 mb fs nx w' o' { m with d:=d' } V/\AJ m.d d'/\Chg (fun _=>True) o o' w w':=by
 obtain⟨s,hs⟩:=h.is;obtain⟨c0,c1,c2,c3,c4,c5,f0⟩:=cells6 hs.blk;have HC:Hq (∀ w1,A7 (fun _ _ _ _ _=>False) o w1 mb m s/\Chg (· = .entries) o o w w1/\Ab o w1->Cl 215 #[Pt s.sb] w1 fun x w'=>x=.returned (Iv m.d.dead)/\∃ o' d',SatE K n Od room w0 mb fs nx w' o' { m with d:=d' } V/\AJ m.d d'/\Chg (fun _=>True) o o' w w'):=by
  refine Hd ?_;rintro w1 ⟨g1,g2,g3⟩;have fin:∀ o' w' d',A7 (fun _ _ _ _ _=>False) o' w' mb { m with d:=d' } s->Ab o' w'->AJ m.d d'->Chg Al o o' w1 w'->∃ o' d',SatE K n Od room w0 mb fs nx w' o' { m with d:=d' } V/\AJ m.d d'/\Chg (fun _=>True) o o' w w':=by
   intro o' w' d' a1 a2 a3 a4;have hc:Chg (fun _=>True) o o' w w':=g2.any.trans a4.any;refine⟨o',d',⟨⟨s,a1.mono fun _ _ _ _ _ e=>e.elim⟩,a2,⟨a3.ok h.ok.store,Ls h.ok.handles h.ok.store a3⟩,by dsimp only;rw[a3.vars];exact h.vars,by dsimp only;rw[a3.vars];exact h.od,by dsimp only;rw[a3.room];exact h.room,h.next,h.hs,h.chg.lower (ChgX.of_chg hc NoB) (fun _ e=>e.elim)⟩,a3,hc⟩
  by_cases h0:m.d.dead=0
  . refine(Lp g1.store h0).mono ?_;rintro x w' ⟨rfl,hb⟩;exact⟨by rw[h0];rfl,fin o w' m.d (g1.below g3 hb) (g3.mono hb.size) (AJ.none h.ok.store h0) (Chg.of_below hb _ _)⟩
  . refine(Lq g1.store g3 h.ok.store h0).mono ?_;rintro x w' ⟨rfl,o',d',b1,b2,b3,b4⟩;exact⟨rfl,fin o' w' d' (g1.setStore g3 b1 b4) b2 b3 b4⟩
 have g0:=Hd (wclear h hs (fun _ _ _ _ _=>False));clear h hs
 go_enter func244,ntmps244
 go_wp2_with fail;refine g0.o.mono ?_;rintro x w1 ⟨rfl,g1,g2,g3⟩;obtain⟨d0,d1,d2,d3,d4,d5,f1⟩:=cells6 g1.blk;have g4:=Hd (HC.o w1 ⟨g1,g2,g3⟩);clear g1 g2 g3 c0 c1 c2 c3 c4 c5 f0 g0 HC;go_wp2_with fail;refine g4.o.mono ?_;rintro x w2 ⟨rfl,hq⟩;have HQ:=Hd hq;clear hq;go_wp2_with fail;go_ret;exact⟨rfl,HQ.o⟩
def HapG (K:Law)(n:Nat)(Od:List Nat->Prop)(room:Nat)(w0:Wd)(mb:Nat)(fs:List (Int×BF))(nx:Int)(ev:Ev):Prop :=
 ∀ (o:Own) (W:Wd) (m:ManD) (V:Nat->BF),SatE K n Od room w0 mb fs nx W o m V->Cl 243 #[Pt mb,evA ev] W fun x w'=>x=.returned (.tuple #[]) /\
  ∃ o' m' V',SatE K n Od room w0 mb fs nx w' o' m' V'/\m'.waits=m.waits/\m'.calls=m.calls/\(m'.d.pool.many<=m.d.pool.many\/m'.d.pool.many<=fs.length*2^n)/\ChgX NoB o o' W w'
def StE (K:Law)(n:Nat)(Od:List Nat->Prop)(room:Nat)(w0:Wd)(mb:Nat)(fs:List (Int×BF))(nx:Int)(St:ManD->Prop)(m':ManD):Prop :=
 ∀ (o:Own) (W:Wd) (m:ManD) (V:Nat->BF),SatE K n Od room w0 mb fs nx W o m V->m.waits=m'.waits->m.calls=m'.calls->(m.d.pool.many<=m'.d.pool.many\/m.d.pool.many<=fs.length*2^n)->St m
def OpG (K:Law)(n:Nat)(Od:List Nat->Prop)(room:Nat)(w0:Wd)(mb:Nat)(fs:List (Int×BF))(nx:Int)(C:Nat->Prop)(B:Wd->Prop)(St:ManD->Prop)(gop:Nat)(lop:Array Value)(Q:Wd->ManD->(Nat->BF)->Nat->Prop)(E:Int->ManD->ManD->Prop):Prop :=
 ∀ (o:Own) (W:Wd) (m:ManD) (V:Nat->BF) (xb:Nat),SatE K n Od room w0 mb fs nx W o m V->B W->(∀ k,C k->k<W.heap.size/\o k=none)->St m->BO o W xb mb->¬ C xb ->
  Calls prog gop (#[Pt xb]++lop) W fun e w'=>∃ (o':Own) (m':ManD) (V':Nat->BF),CM C K o W mb m V o' w' m' V'/\B w' /\
   ((∃ r:Nat,e=.returned (Iv r)/\okE (Aa m'.d) r/\Q w' m' V' r) \/
    (∃ er:Int,e=AV er false ev0/\er≠0/\m'.waits=m.waits/\St m'/\E er m m') \/
    (∃ ev,e=AV 0 true ev/\m.waits=ev::m'.waits/\StE K n Od room w0 mb fs nx St m'/\HapG K n Od room w0 mb fs nx ev))
theorem Re (gop:Nat)(lop:Array Value)(W:Wd)(xb ob fb:Nat)(R:Nat->Wd->Prop)(R2:Int->Bool->Ev->Wd->Prop)(eg:∀ args w,(callFunc gop args).run prog w=.ok (.enter gop args) w)
 (hob:W.cell? (Av ob)=some (.func (.func gop) #[] lop)) (hop:Calls prog gop (#[Pt xb]++lop) W fun e w'=>(∃ r:Nat,e=.returned (Iv r)/\R r w'/\(∃ z:Int,w'.cell? (Av fb)=some (Iv z))/\w'.frozen? (Av fb)=false) \/
  ∃ er evt ev,e=AV er evt ev/\R2 er evt ev w') :
 Cl 197 #[Pt xb,Pt ob,Pt fb] W fun e w'=>(e=.returned (.tuple #[])/\∃ r w1,R r w1/\w'=w1.setCell (Av fb) (Iv (r:Nat)))\/∃ er evt ev,e=AV er evt ev/\R2 er evt ev w':=by
 have g0:=Hd hop;clear hop
 go_enter func197,ntmps197
 go_wp2_with fail;refine g0.o.mono ?_;rintro e w' (⟨r,rfl,hr,⟨z,hc⟩,hf⟩|⟨er,evt,ev,rfl,hr⟩)
 . have HR:=Hd hr;clear hr;go_wp2_with fail;go_end0;exact .inl ⟨rfl,r,w',HR.o,rfl⟩
 . have HR:=Hd hr;clear hr;unfold AV;go_wp2_with fail;exact⟨rfl,.inr ⟨er,evt,ev,rfl,HR.o⟩⟩
structure RunI (K:Law)(n:Nat)(Od:List Nat->Prop)(room:Nat)(w0:Wd)(mb:Nat)(fs:List (Int×BF))(nx:Int)(C:Nat->Prop)(B:Wd->Prop)(St:ManD->Prop)(gop:Nat)(lop:Array Value)(o0:Own)(w:Wd)(k:Nat)(full:Bool)(W:Wd)(o:Own)(m:ManD)(V:Nat->BF):Prop where
 sat:SatE K n Od room w0 mb fs nx W o m V
 bok:B W
 st:St m
 len:m.waits.length=k
 cok:∀ c,C c->c<w.heap.size/\o c=none
 chg:ChgX C o0 o w W
 size:w.heap.size+2<=W.heap.size
 obn:o w.heap.size=none
 fbn:o (w.heap.size+1)=none
 ob:W.heap[w.heap.size]?=some (.cells #[.func (.func gop) #[] lop] 182 (0,0))
 fb:∃ z:Int,W.heap[w.heap.size+1]?=some (.cells #[Iv z] 101 (0,0))
 clean:full=true->m.d.dead=0
def RunF (K:Law)(n:Nat)(Od:List Nat->Prop)(room:Nat)(w0:Wd)(mb:Nat)(fs:List (Int×BF))(nx:Int)(C:Nat->Prop)(B:Wd->Prop)(Q:Wd->ManD->(Nat->BF)->Nat->Prop)(E:Int->ManD->ManD->Prop)(o0:Own)(w:Wd)(er:Int)(W:Wd):Prop :=
 ∃ o m V,SatE K n Od room w0 mb fs nx W o m V/\B W/\ChgX C o0 o w W/\w.heap.size+2<=W.heap.size/\o (w.heap.size+1)=none /\
  ((er=0/\∃ r:Nat,okE (Aa m.d) r/\Q W m V r/\W.heap[w.heap.size+1]?=some (.cells #[Iv r] 101 (0,0))) \/
   (er≠0/\∃ m0:ManD,E er m0 m/\(er=7->m0.d.dead=0)))
theorem Rf {B:Wd->Prop}{St:ManD->Prop}{gop:Nat}{Q:Wd->ManD->(Nat->BF)->Nat->Prop}{E:Int->ManD->ManD->Prop}
 (hB:∀ W W',B W->(∀ c,C c->W'.heap[c]?=W.heap[c]?)->B W') (hQ:∀ W W' m V r,Q W m V r->(∀ c,C c->W'.heap[c]?=W.heap[c]?)->Q W' m V r) (hSt:∀ (m:ManD) (d:Ae),St m->AJ m.d d->St { m with d:=d }) (hC0:∀ c,C c->w0.heap.size<=c) (eg:∀ args w,(callFunc gop args).run prog w=.ok (.enter gop args) w)
 (hop:OpG K n Od room w0 mb fs nx C B St gop lop Q E) {o:Own} {w:Wd} {m:ManD} {V:Nat->BF} (h:SatE K n Od room w0 mb fs nx w o m V) (hb:B w) (hC:∀ c,C c->c<w.heap.size/\o c=none) (hst:St m) :
 Cl 196 #[Pt mb,.func (.func 197) #[] #[Pt w.heap.size,Pt (w.heap.size+1)]] (doW gop lop w) fun x w'=>∃ er,x=.returned (Iv er)/\RunF K n Od room w0 mb fs nx C B Q E o w er w':=by
 have hz:(doW gop lop w).heap.size=w.heap.size+2:=by simp[doW]
 have gi:Bw w (doW gop lop w):=(Af w _).alloc (by simp) _;have gt:(doW gop lop w).heap[w.heap.size+1]?=some (.cells #[Iv 0] 101 (0,0)):=by
  have:=Vq (w.alloc (.cells #[.func (.func gop) #[] lop] 182)) (.cells #[Iv 0] 101);rw[VO] at this;exact this
 have gq:(doW gop lop w).heap[w.heap.size]?=some (.cells #[.func (.func gop) #[] lop] 182 (0,0)):=(VL _ _ (by simp)).trans (Vq w _);have hw0:=h.chg.size;have gg:RunI K n Od room w0 mb fs nx C B St gop lop o w m.waits.length false (doW gop lop w) o m V :=
  ⟨h.below gi,hB _ _ hb (fun c hc=>gi.block c (hC c hc).1),hst,rfl,hC,ChgX.of_below gi o C,by omega,h.lt.none (Vo _),h.lt.none (by omega),gq,⟨0,gt⟩,by simp⟩
 have g8:∀ {k full W W' o1 m1 V1},RunI K n Od room w0 mb fs nx C B St gop lop o w k full W o1 m1 V1->∀ {s:Nat},w.heap.size+2<=s->o1 s=none->o1 (s+1)=none->Ali s W W'->RunI K n Od room w0 mb fs nx C B St gop lop o w k full W' o1 m1 V1:=by
  intro k full W W' o1 m1 V1 hi s hs n0 n1 a;have gj:=hi.size;have hk:∀ k,k<w.heap.size+2->W'.heap[k]?=W.heap[k]?:=fun k hk=>a.keep k (by omega) (by omega)
  refine⟨hi.sat.other a (fun k _ e=>?_),hB _ _ hi.bok (fun c hc=>hk c (by have:=(hi.cok c hc).1;omega)),hi.st,hi.len,hi.cok,hi.chg.trans (ChgX.of_wr (C:=fun k=>w.heap.size<=k) a o1 (fun k _ e=>by omega)) (fun k hk e=>by omega),Vx hi.size a.size,hi.obn,hi.fbn,(hk _ (by omega)).trans hi.ob,?_,hi.clean⟩
  ·rcases e with rfl|rfl
   . exact⟨by omega,n0⟩
   . exact⟨by omega,n1⟩
  . obtain⟨z,hz⟩:=hi.fb;exact⟨z,(hk _ (by omega)).trans hz⟩
 have gf:∀ {k full full' W W' o1 m1 V1 o2 m2 V2},RunI K n Od room w0 mb fs nx C B St gop lop o w k full W o1 m1 V1->SatE K n Od room w0 mb fs nx W' o2 m2 V2->ChgX NoB o1 o2 W W'->m2.waits=m1.waits->St m2->(full'=true->m2.d.dead=0)->RunI K n Od room w0 mb fs nx C B St gop lop o w k full' W' o2 m2 V2:=by
  intro k full full' W W' o1 m1 V1 o2 m2 V2 hi gm hc e1 e2 e3;have gj:=hi.size;obtain⟨z,hz⟩:=hi.fb
  exact⟨gm,hB _ _ hi.bok (fun c ga=>hc.block c (by have:=(hi.cok c ga).1;omega) (hi.cok c ga).2 (fun e=>e)),e2,by rw[e1];exact hi.len,fun c ga=>⟨(hi.cok c ga).1,hc.none' (by have:=(hi.cok c ga).1;omega) (hi.cok c ga).2⟩,
   hi.chg.trans hc (fun _ _ e=>e.elim),Vx hi.size hc.size,hc.none' (by omega) hi.obn,hc.none' (by omega) hi.fbn,(hc.block _ (by omega) hi.obn (fun e=>e)).trans hi.ob,⟨z,(hc.block _ (by omega) hi.fbn (fun e=>e)).trans hz⟩,e3⟩
 refine K5 mb _ _ _ PM (fun k full W=>∃ o1 m1 V1,RunI K n Od room w0 mb fs nx C B St gop lop o w k full W o1 m1 V1) _ ?_ _ ⟨o,m,V,gg⟩;rintro k full W ⟨o1,m1,V1,hi⟩;have gj:=hi.size;obtain⟨s,hs⟩:=Ex W.heap.size
 refine⟨fun st W1=>match st with
  | none=>∃ (o':Own) (m':ManD) (V':Nat->BF) (r:Nat) (w1:Wd),SatE K n Od room w0 mb fs nx w1 o' m' V'/\B w1/\ChgX C o o' w w1/\s+3<=w1.heap.size/\(∀ q,w.heap.size<=q->q<s+3->o1 q=none->o' q=none)/\(∃ z:Int,w1.heap[w.heap.size+1]?=some (.cells #[.int .i64 z] 101 (0,0)))/\okE (Aa m'.d) r/\Q w1 m' V' r/\W1=w1.setCell ⟨w.heap.size+1,0,none⟩ (.int .i64 (r:Nat))
  | some (er,evt,ev)=>∃ (o':Own) (m':ManD) (V':Nat->BF),RunI K n Od room w0 mb fs nx C B St gop lop o w m'.waits.length false W1 o' m' V'/\s+3<=W1.heap.size/\(∀ q,w.heap.size<=q->q<s+3->o1 q=none->o' q=none) /\
   ((evt=false/\er≠0/\m'.waits=m1.waits/\E er m1 m')\/(evt=true/\m1.waits=ev::m'.waits/\StE K n Od room w0 mb fs nx St m'/\HapG K n Od room w0 mb fs nx ev)),?_,?_,?_,?_,?_⟩
 ·unfold ER;have g9:Bw W (tryW mb W):=((Af _ _).alloc (by simp) _).alloc (by simp;omega) _;have go:(tryW mb W).heap.size=W.heap.size+3:=by unfold tryW;simp
  obtain⟨T,hT⟩:=Ex (tryW mb W);have h1:(tryW mb W).heap[W.heap.size+2]?=some (.cells #[Pt mb] 233 (0,0)):=by
   have:=Vq ((W.alloc (.cells #[Iv 0,.bool false,Iv 0,Iv 0,Iv 0] 235)).alloc (.cells #[.bool false] 4)) (.cells #[Pt mb] 233);rw[VO,VO] at this;exact this
  rw[<- hT] at g9 go h1 ⊢;clear hT;have g7:=hi.sat.below g9;have gv:BO o1 T (W.heap.size+2) mb:=⟨cell1 h1,hi.sat.lt.none (by omega)⟩;have gn:=hop o1 T m1 V1 (W.heap.size+2) g7 (hB _ _ hi.bok (fun c hc=>g9.block c (by have:=(hi.cok c hc).1;omega))) (fun c hc=>⟨by have:=(hi.cok c hc).1;omega,(hi.cok c hc).2⟩) hi.st gv (fun e=>by have:=(hi.cok _ e).1;omega);have gh:=(g9.block w.heap.size (by omega)).trans hi.ob;obtain⟨z,hz⟩:=hi.fb;have ge:=(g9.block (w.heap.size+1) (by omega)).trans hz;have gy:∀ q,w.heap.size<=q->¬ C q:=fun q hq e=>by have:=(hi.cok q e).1;omega
  have g0:∀ {o':Own} {w1:Wd},ChgX C o1 o' T w1->∀ q,w.heap.size<=q->q<s+3->o1 q=none->w1.heap[q]?=T.heap[q]?:=fun hc q h1 h2 h3=>hc.block q (by omega) h3 (gy q h1)
  refine(Re gop lop T (W.heap.size+2) w.heap.size (w.heap.size+1) (fun r w1=>∃ o' m' V',CM C K o1 T mb m1 V1 o' w1 m' V'/\B w1/\okE (Aa m'.d) r/\Q w1 m' V' r)
   (fun er evt ev w1=>∃ o' m' V',CM C K o1 T mb m1 V1 o' w1 m' V'/\B w1/\((evt=false/\er≠0/\m'.waits=m1.waits/\St m'/\E er m1 m')\/(evt=true/\m1.waits=ev::m'.waits/\StE K n Od room w0 mb fs nx St m'/\HapG K n Od room w0 mb fs nx ev))) eg (cell1 gh) (gn.mono ?_)).mono ?_
  ·rintro e w1 ⟨o',m',V',st,b1,(⟨r,rfl,q1,q2⟩|⟨er,rfl,q1,q2,q3,q4⟩|⟨ev,rfl,q1,q2,q3⟩)⟩
   . have hf:=(g0 st.chg (w.heap.size+1) (by omega) (by omega) hi.fbn).trans ge;exact .inl ⟨r,rfl,⟨o',m',V',st,b1,q1,q2⟩,⟨z,cell1 hf⟩,by simp[World.frozen?,hf]⟩
   . exact .inr ⟨er,false,ev0,rfl,o',m',V',st,b1,.inl ⟨rfl,q1,q2,q3,q4⟩⟩
   . exact .inr ⟨0,true,ev,rfl,o',m',V',st,b1,.inr ⟨rfl,q1,q2,q3⟩⟩
  ·have n0:o1 W.heap.size=none:=hi.sat.lt.none (Vo _);have n1:o1 (W.heap.size+1)=none:=hi.sat.lt.none (by omega);rintro e W' (⟨rfl,r,w1,⟨o',m',V',st,b1,q1,q2⟩,rfl⟩|⟨er,evt,ev,rfl,o',m',V',st,b1,q⟩)
   ·have hf:=(g0 st.chg (w.heap.size+1) (by omega) (by omega) hi.fbn).trans ge;have gl:=st.chg.size;refine⟨by simp[World.setCell];omega,?_,?_,.inl ⟨rfl,o',m',V',r,w1,g7.step st hC0,b1,(hi.chg.trans (ChgX.of_below g9 o1 C) (fun _ _ e=>e)).trans st.chg (fun _ _ e=>e),by omega,fun q _ h2 h3=>st.chg.none' (by omega) h3,⟨z,hf⟩,q1,q2,rfl⟩⟩
    . exact(A0 (by show _≠w.heap.size+1;omega) _).trans (g0 st.chg _ (by omega) (by omega) n0)
    . exact(A0 (by show _≠w.heap.size+1;omega) _).trans (g0 st.chg _ (by omega) (by omega) n1)
   ·have gl:=st.chg.size;have b2:St m':=by
     rcases q with ⟨_,_,_,q,_⟩|⟨_,_,q,_⟩
     . exact q
     . exact q _ _ _ _ (g7.step st hC0) rfl rfl (.inl (Vo _))
    have gw:=(hi.chg.trans (ChgX.of_below g9 o1 C) (fun _ _ e=>e)).trans st.chg (fun _ _ e=>e);refine⟨by omega,g0 st.chg _ (by omega) (by omega) n0,g0 st.chg _ (by omega) (by omega) n1,.inr ⟨er,evt,ev,rfl,o',m',V',?_,by omega,fun q _ h2 h3=>st.chg.none' (by omega) h3,q.imp (fun⟨a1,a2,a3,_,a4⟩=>⟨a1,a2,a3,a4⟩) id⟩⟩
    exact⟨g7.step st hC0,b1,b2,rfl,fun c hc=>⟨(hi.cok c hc).1,st.chg.none' (by have:=(hi.cok c hc).1;omega) (hi.cok c hc).2⟩,gw,by omega,st.chg.none' (by omega) hi.obn,st.chg.none' (by omega) hi.fbn,
     (g0 st.chg _ (by omega) (by omega) hi.obn).trans gh,⟨z,(g0 st.chg (w.heap.size+1) (by omega) (by omega) hi.fbn).trans ge⟩,by simp⟩
 ·rintro W1 W2 ⟨o',m',V',r,w1,a1,a2,a3,a4,a5,⟨z,a6⟩,a7,a8,rfl⟩ al;have gc:Wr (fun k=>k=w.heap.size+1\/k=s\/k=s+1) w1 W2:=Wr.trans ((Wr.refl (fun k=>k=w.heap.size+1) w1).setCell (p:=(Av (w.heap.size+1))) (.inl rfl) _) al (fun k _ e=>.inl e) (fun k _ e=>.inr (by rw[hs];exact e));have n0:o' s=none:=a5 s (by omega) (by omega) (by rw[hs];exact hi.sat.lt.none (Vo _));have n1:o' (s+1)=none:=a5 (s+1) (by omega) (by omega) (by rw[hs];exact hi.sat.lt.none (by omega));have nf:o' (w.heap.size+1)=none:=a5 _ (by omega) (by omega) hi.fbn;have hf:=(al.keep (w.heap.size+1) (by simp[World.setCell];omega) (by omega)).trans (A5 a6 _);refine⟨o',m',V',a1.other gc (fun k _ e=>?_),hB _ _ a2 (fun c hc=>gc.keep c (by have:=(hi.cok c hc).1;omega) (by have:=(hi.cok c hc).1;omega)),a3.trans (ChgX.of_wr (C:=fun k=>w.heap.size<=k) gc o' (fun k _ e=>by omega)) (fun k hk e=>by omega),by have:=gc.size;omega,nf,.inl ⟨rfl,r,a7,hQ _ _ _ _ _ a8 (fun c hc=>gc.keep c (by have:=(hi.cok c hc).1;omega) (by have:=(hi.cok c hc).1;omega)),hf⟩⟩;rcases e with rfl|rfl|rfl
  . exact⟨by omega,nf⟩
  . exact⟨by omega,n0⟩
  . exact⟨by omega,n1⟩
 ·rintro er ev W1 W2 ⟨o',m',V',gd,a4,a5,(⟨h1,_⟩|⟨_,gu,gp,gx⟩)⟩ al
  . cases h1
  rw[<- hs] at al;have n0:o' s=none:=a5 s (by omega) (by omega) (by rw[hs];exact hi.sat.lt.none (Vo _));have n1:o' (s+1)=none:=a5 (s+1) (by omega) (by omega) (by rw[hs];exact hi.sat.lt.none (by omega));have g6:=g8 gd (by omega) n0 n1 al;refine(gx o' W2 m' V' g6.sat).mono ?_;rintro x w' ⟨rfl,o2,m2,V2,g1,g2,g3,g5,g4⟩;refine⟨rfl,m'.waits.length,by rw[<- hi.len,gu];simp,o2,m2,V2,gf g6 g1 g4 g2 (gp _ _ _ _ g1 g2 g3 g5) (by simp)⟩
 ·rintro ev W1 W2 ⟨o',m',V',gd,a4,a5,(⟨_,_,hw,_⟩|⟨h1,_⟩)⟩ al gz
  . rw[<- hs] at al;have n0:o' s=none:=a5 s (by omega) (by omega) (by rw[hs];exact hi.sat.lt.none (Vo _));have n1:o' (s+1)=none:=a5 (s+1) (by omega) (by omega) (by rw[hs];exact hi.sat.lt.none (by omega));have g6:=g8 gd (by omega) n0 n1 al;refine(Lt g6.sat).mono ?_;rintro x w' ⟨rfl,o2,d2,g1,g2,g3⟩;have gk:=gf (full':=true) g6 g1 (ChgX.of_chg g3 NoB) rfl (hSt _ _ g6.st g2) (fun _=>g2.dead);rw[hw,hi.len] at gk;exact⟨⟨_,rfl⟩,o2,_,V',gk⟩
  . cases h1
 ·rintro er ev W1 W2 ⟨o',m',V',gd,a4,a5,(⟨_,h0,hw,hE⟩|⟨h1,_⟩)⟩ al gr
  ·rw[<- hs] at al;have n0:o' s=none:=a5 s (by omega) (by omega) (by rw[hs];exact hi.sat.lt.none (Vo _));have n1:o' (s+1)=none:=a5 (s+1) (by omega) (by omega) (by rw[hs];exact hi.sat.lt.none (by omega));have g6:=g8 gd (by omega) n0 n1 al;refine⟨o',m',V',g6.sat,g6.bok,g6.chg,g6.size,g6.fbn,.inr ⟨h0,m1,hE,fun e7=>hi.clean ?_⟩⟩;cases full with
   | true=>rfl
   | false=>exact(gr ⟨e7,rfl⟩).elim
  . cases h1
def IE (K:Law)(n:Nat)(Od:List Nat->Prop)(room:Nat)(w0:Wd)(mb:Nat)(fs:List (Int×BF))(nx:Int)(C:Nat->Prop)(B:Wd->Prop)(Q:Wd->ManD->(Nat->BF)->Nat->Prop)(E:Int->ManD->ManD->Prop)(o:Own)(w:Wd)(x:Ending)(w':Wd):Prop :=
 ∃ o' m' V',B w'/\ChgX C o o' w w' /\
  ((∃ r m1,x=.returned (.tuple #[Iv nx,Iv 0])/\SatE K n Od room w0 mb (fs++[(nx,ef V' r)]) (nx+1) w' o' m' V'/\Q w' m1 V' r/\okE (Aa m1.d) r/\Aa m'.d=Aa m1.d/\m'.d.vars=m1.d.vars/\m'.d.level=m1.d.level/\m'.d.pool.many=m1.d.pool.many/\m'.waits=m1.waits/\m'.calls=m1.calls) \/
   (∃ er m0,er≠0/\x=.returned (.tuple #[Iv 0,Iv er])/\SatE K n Od room w0 mb fs nx w' o' m' V'/\E er m0 m'/\(er=7->m0.d.dead=0)))
theorem Lu (hK:Bb K){B:Wd->Prop}{St:ManD->Prop}{gop:Nat}{Q:Wd->ManD->(Nat->BF)->Nat->Prop}{E:Int->ManD->ManD->Prop}
 (hB:∀ W W',B W->(∀ c,C c->W'.heap[c]?=W.heap[c]?)->B W') (hQ:∀ W W' m V r,Q W m V r->(∀ c,C c->W'.heap[c]?=W.heap[c]?)->Q W' m V r) (hSt:∀ (m:ManD) (d:Ae),St m->AJ m.d d->St { m with d:=d }) (hC0:∀ c,C c->w0.heap.size<=c) (eg:∀ args w,(callFunc gop args).run prog w=.ok (.enter gop args) w)
 (hop:OpG K n Od room w0 mb fs nx C B St gop lop Q E) {o:Own} {w:Wd} {m:ManD} {V:Nat->BF} (h:SatE K n Od room w0 mb fs nx w o m V) (hb:B w) (hC:∀ c,C c->c<w.heap.size/\o c=none) (hst:St m) (hn:nx<1099511627776) :
 Cl 143 #[Pt mb,.func (.func gop) #[] lop] w (IE K n Od room w0 mb fs nx C B Q E o w):=by
 have gr:∀ (fn:Fn) (first cap:Array Value) (w:Wd),(Instr.makeFunc fn first cap).run prog w=.ok (.func fn first cap) w:=fun _ _ _ _=>rfl
 have g5:=Hd (Rf hB hQ hSt hC0 eg hop h hb hC hst);have gi:=Hd hK;have gm:=Hd hB;have gl:=Hd hQ;have gd:=Hd hn;have ge:=Hd hC;have gq:=PN (w.alloc (.cells #[.func (.func gop) #[] lop] 182)) (.func gop) #[] lop;have HW:Hq ((w.alloc (.cells #[.func (.func gop) #[] lop] 182)).alloc (.cells #[Iv 0] 101)=doW gop lop w):=Hd rfl;clear h hb hK hB hQ hSt hC0 hop hC hst hn
 go_enter func143,ntmps143
 go_wp2_with fail;rw[HW.o];refine g5.o.mono ?_;rintro x w1 ⟨er,rfl,o1,m1,V1,sat,b1,g6,g7,g4,(⟨rfl,r,hr,hq,ga⟩|⟨h0,m0,hE,h7⟩)⟩
 rotate_left
 ·have HF:Hq (IE K n Od room w0 mb fs nx C B Q E o w (.returned (.tuple #[Iv 0,Iv er])) w1):=Hd ⟨o1,m1,V1,b1,g6,.inr ⟨er,m0,h0,rfl,sat,hE,h7⟩⟩;have gt:(er == 0)=false:=by simpa using h0
  clear h0 hE h7 sat b1 g6 g7 g4 g5 HW;go_wp2_with fail
  go_ret2
  exact HF.o
 have g1:=cell1 ga;obtain⟨s1,g9⟩:=sat.is;obtain⟨c0,c1,c2,c3,c4,c5,f0⟩:=cells6 g9.blk;obtain⟨ss,g8⟩:=g9.store;have gh:r<eMax:=by have:=g8.edge_lt hr;unfold eMax;omega
 have gk:Hq (Cl 198 #[Pt s1.sb,Iv r] w1.drew (Bl (.bool true) w1)):=by
  have h1:=Eh (g8.below sat.lt (An w1 1)) (sat.lt.mono (An w1 1).size) r gh;rw[Kp hr] at h1;exact Hd (h1.mono fun x w' ⟨a,b⟩=>⟨a,DO (n:=1) b⟩)
 have gj:=Hd sat;have HR:=Hd hr;have HQ:=Hd hq;have gn:=Hd b1;have gf:=Hd g6;have gu:=Hd g4;have lmb:mb<w1.heap.size:=Ah c0;have lfb:w.heap.size+1<w1.heap.size:=Ah g1;clear sat g9 g8 hr hq b1 g6 g4 g7 g5 HW;go_upto_region 9 with fail;refine GY (fun W:Wd=>Bw w1 W) 7 (by kernel_rfl) (An w1 1) ?_;refine Cj 0 rfl rfl (by kernel_rfl) ?_;apply Exists.intro;refine⟨fun w' hw=>?_,?_⟩
 . have q1:=(hw.cell (p:=Av mb) lmb).trans c0;have q2:=(hw.cell (p:=(Av (w.heap.size+1))) lfb).trans g1;go_simp;rfl
 simp only[Ac];refine Cj 1 rfl rfl (by kernel_rfl) ?_;apply Exists.intro;refine⟨fun w' hw=>?_,?_⟩
 . have q1:=(hw.cell (p:=Av mb) lmb).trans c0;have q2:=(hw.cell (p:=(Av (w.heap.size+1))) lfb).trans g1;go_simp;rfl
 simp only[Ac];refine Cj 2 rfl rfl (by kernel_rfl) ?_;apply Exists.intro;refine⟨fun w' hw=>?_,?_⟩
 . have q1:=(hw.cell (p:=Av mb) lmb).trans c0;have q2:=(hw.cell (p:=(Av (w.heap.size+1))) lfb).trans g1;go_simp;rfl
 simp only[Ac];refine Cj 3 rfl rfl (by kernel_rfl) ?_;apply Exists.intro;refine⟨fun w' hw=>?_,?_⟩
 . have q1:=(hw.cell (p:=Av mb) lmb).trans c0;have q2:=(hw.cell (p:=(Av (w.heap.size+1))) lfb).trans g1;go_simp;rfl
 simp only[Ac];refine Cj 4 rfl rfl (by kernel_rfl) ?_;apply Exists.intro;refine⟨fun w' hw=>?_,?_⟩
 . have q1:=(hw.cell (p:=Av mb) lmb).trans c0;have q2:=(hw.cell (p:=(Av (w.heap.size+1))) lfb).trans g1;go_simp;rfl
 simp only[Ac];refine Dx [5] (by kernel_rfl) (fun i hi hS o ho=>?_);simp only[CP] at hi;subst hi;simp only[CF] at ho;subst ho;refine⟨rfl,?_⟩;refine Dk (v:=.bool true) (R:=fun w'=>Bw w1 w') (by go_simp) gk.o ?_;rintro w2 g3;refine⟨g3,?_⟩;simp only[Ac];have gp:=(g3.cell (p:=(Av (w.heap.size+1))) lfb).trans g1;have d0:=(g3.cell (p:=Av mb) lmb).trans c0;have g0:=Hd (gj.o.below g3);refine Cj 6 rfl rfl (by kernel_rfl) ?_;apply Exists.intro;refine⟨fun w' hw=>?_,?_⟩
 . have q1:=(hw.cell (p:=Av mb) lmb).trans c0;have q2:=(hw.cell (p:=(Av (w.heap.size+1))) lfb).trans g1;go_simp;rfl
 simp only[Ac];have gc:=g3;clear c0 c1 c2 c3 c4 c5 f0 g1 ga g3;refine FI (by kernel_rfl) ?_;have HG:=Hd (Is gi.o g0.o.is g0.o.lt g0.o.ok r HR.o (by rw[g0.o.next];exact gd.o));have HB2:=Hd gc;clear gc;go_wp2_with fail;refine HG.o.mono ?_;rintro x w3 ⟨rfl,o3,m3,hg⟩;have g2:=Hd hg;have gd:Hq (m1.next=nx):=Hd g0.o.next
 clear hg;go_wp2_with fail
 go_ret2
 have go:=g0.o.lt;have gg:∀ c,C c->w3.heap[c]?=w1.heap[c]?:=fun c hc=>by
  have h1:=(ge.o c hc).1;have h2:=gf.o.size;have h3:=HB2.o.size;exact(g2.o.chg.alien (by omega) (gf.o.none' h1 (ge.o c hc).2)).trans (HB2.o.block c (by omega))
 refine⟨o3,m3,V1,gm.o _ _ gn.o gg,(gf.o.trans (ChgX.of_below HB2.o o1 C) (fun _ _ e=>e)).trans (ChgX.of_chg g2.o.chg C) (fun _ _ e=>e),.inl ⟨r,m1,by rw[<- gd.o];rfl,g0.o.gave g2.o,gl.o _ _ _ _ _ HQ.o gg,HR.o,g2.o.nodes,g2.o.vars,g2.o.level,g2.o.many,g2.o.waits,g2.o.calls⟩⟩
section
variable {R:List PanicEntry->Wd->Prop}{m:Nat}
def PP (R:List PanicEntry->Wd->Prop)(Q:Exit->Act->Wd->Prop):Exit->Act->Wd->Prop
 | .panic c,a,w=>a.defers=[]/\R c w
 | e,a,w=>Q e a w
theorem Rg (a:Act)(d:Option Nat)(v:Value):(a.put d v).defers=a.defers:=by cases d<;>rfl
theorem Rh (c:List PanicEntry)(a:Act)(d:Option Nat)(v:Value)(w:Wd)(h:PP R Q (.panic c) (a.put d v) w):PP R Q (.panic c) a w:=⟨(Rg a d v).symm.trans h.1,h.2⟩
theorem Ri {s:Code}(hR:∀ c (a:Act) w,a.defers=[]->R c w->Q (.panic c) a w)(h:s.wp P (PP R Q) a w):s.wp P Q a w :=
 Code.wp_mono (fun e a w h=>by cases e<;>first|exact h|exact hR _ _ _ h.1 h.2) h
structure Dl (P:Program)(l:List Oper)(Q:Exit->Act->Wd->Prop)(R:List PanicEntry->Wd->Prop)(S:Wd->Prop)(m f:Nat)(L:Array Bool)(a:Act)(w:Wd):Prop where
 goes:Closed l.toArray L->S w->DG P l.toArray (PP R Q) S m f L a w
theorem Lv (S:Wd->Prop)(R:List PanicEntry->Wd->Prop)(m:Nat)(hR:∀ c (a:Act) w,a.defers=[]->R c w->Q (.panic c) a w)(hm:P.follows .mixedOrders=true)(hS:S w.drew)
 (h:Dl P l Q R S m l.length (Array.replicate l.toArray.size false) a w.drew):(Code.region id l.toArray true).wp P Q a w :=
 Ri hR (wp_region_any hm (F6 _ _ _ _ (h.goes (GI _) hS)))
theorem Rj (i:Nat)(o:Oper)(v:Value)(hi:l[i]?=some o)
 (hB:(Region.noSelect l.toArray&&(Region.ready .any l.toArray L).contains i&&Region.free .any l.toArray L i&&(decide (l.toArray.size<=m)||reaches l.toArray l.toArray.size i m))=true)
 (hy:∀ w,S w->YieldsIf P l.toArray S o v a) (h:Dl P l Q R S m f (L.setIfInBounds i true) (a.put o.dst v) w):Dl P l Q R S m (f+1) L a w:=by
 refine⟨fun hc hS=>?_⟩;simp only[Wu] at hB;obtain⟨⟨⟨hs,hr⟩,hf⟩,hm⟩:=hB;have g1:l.toArray[i]?=some o:=by simpa using hi
 have g0:i∈Region.ready .any l.toArray L:=by simpa using hr
 exact GJ g1 hs Rh hm f L a w hc (Region.free_spec g1 hf) g0 (hy w hS) hS (h.goes (hc.set g0) hS)
theorem Dm (i:Nat){o:Oper}(hi:l[i]?=some o)(hg:o.guard=none)
 (hB:(Region.noSelect l.toArray&&(Region.ready .any l.toArray L).contains i&&Region.free .any l.toArray L i&&(decide (l.toArray.size<=m)||reaches l.toArray l.toArray.size i m))=true)
 (h:∃ v,(∀ w,S w->(execOp a.eval o).run P w=.ok (.value v) w)/\Dl P l Q R S m f (L.setIfInBounds i true) (a.put o.dst v) w):Dl P l Q R S m (f+1) L a w:=by
 obtain⟨v,h1,h2⟩:=h;exact Rj i o v hi hB (fun w _=>.inl ⟨by simp[Region.wanted,hg],h1⟩) h2
theorem Ez (is:List Nat)(hr:(decide (Region.ready .any l.toArray L=is) && !is.isEmpty)=true)
 (h:∀ i∈is,S w->∀ o,l[i]?=some o->Region.wanted o (yielded l.toArray a.tmps)=true/\o.wp P a w (fun a' w'=>S w'/\Dl P l Q R S m f (L.setIfInBounds i true) a' w') (PP R Q)):Dl P l Q R S m (f+1) L a w:=by
 refine⟨fun hc hS=>?_⟩;simp only[Wu,WB] at hr;obtain⟨hr,g1⟩:=hr;refine⟨fun h0=>(by rw[h0] at hr;subst hr;simp at g1),fun i hi=>?_⟩;have g2:i∈is:=by rw[<- hr];exact hi
 obtain⟨_,o,ho,_⟩:=mem_ready.1 hi;obtain⟨hw,g0⟩:=h i g2 hS o (by simpa using ho);unfold wpOp;rw[ho];simp only[hw,Ws];left;refine Oper.wp_mono ?_ g0;intro a' w' ⟨h1,h2⟩;exact⟨.inr h1,h2.goes (hc.set hi) h1⟩
theorem Lw (hr:(Region.ready .any l.toArray L).isEmpty=true)(h:Q .normal a w):Dl P l Q R S m 0 L a w :=
 ⟨fun _ _=>⟨by simpa [Yf] using hr,h⟩⟩
end
theorem Lx {o:Oper}{K:Act->Wd->Prop}{f:FuncId}{R:Value->Wd->Prop}{R2:List PanicEntry->Wd->Prop}(he:(execOp a.eval o).run P w=.ok (.enter f args) w)
 (hc:Calls P f args w fun e w'=>(∃ v,e=.returned v/\R v w')\/(∃ ch,e=.panicked ch/\R2 ch w')) (h:∀ v w',R v w'->K (a.put o.dst v) w') (h2:∀ ch w',R2 ch w'->Q (.panic ch) a w'):o.wp P a w K Q:=by
 unfold Oper.wp;simp only[he,Oper.upon];refine hc.mono fun e w' hh=>?_
 rcases hh with ⟨v,h1,h3⟩|⟨ch,h1,h3⟩
 . subst h1;exact h v w' h3
 . subst h1;exact h2 ch w' h3
abbrev C3 (bf bg bh:Nat):Nat->Prop:=fun k=>k=bf\/k=bg\/k=bh
structure B3 (bf bg bh:Nat)(kf kg kh:Int)(W:Wd):Prop where
 f:W.cell? (Av bf)=some (Iv kf)
 g:W.cell? (Av bg)=some (Iv kg)
 h:W.cell? (Av bh)=some (Iv kh)
theorem B3.keep {bf bg bh:Nat}{kf kg kh:Int}(W W':Wd)(h:B3 bf bg bh kf kg kh W)(hk:∀ c,C3 bf bg bh c->W'.heap[c]?=W.heap[c]?):B3 bf bg bh kf kg kh W' :=
 ⟨Co h.f (hk _ (.inl rfl)),Co h.g (hk _ (.inr (.inl rfl))),Co h.h (hk _ (.inr (.inr rfl)))⟩
def Bu (F G H:BF):BF:=fun ρ=>iteB (F ρ) (G ρ) (H ρ)
def SatX (K:Law)(n:Nat)(Od:List Nat->Prop)(room:Nat)(w0:Wd)(mb:Nat)(fs:List (Int×BF))(nx:Int)(m:ManD):Prop:=∃ W o V,SatE K n Od room w0 mb fs nx W o m V
def DU (lim:Option Nat)(k:Nat)(m:ManD):Prop:=∀ M,lim=some M->m.d.pool.many<=M+k
def QF (ws0:List Ev)(lim:Option Nat)(k:Nat)(F:BF)(_:Wd)(m':ManD)(V':Nat->BF)(r:Nat):Prop:=ef V' r=F/\m'.waits <:+ ws0/\DU lim k m'
def EF (A:ManD->Prop)(k:Nat)(ws0:List Ev)(er:Int)(m m':ManD):Prop:=er=7/\A m/\m'.d.pool.many=m'.d.pool.room/\m'.d.pool.many+1<=m.d.pool.many+k/\m'.waits <:+ ws0
abbrev Fa (ws0:List Ev)(m:ManD):Prop:=m.waits <:+ ws0
abbrev StL (ws0:List Ev)(lim:Option Nat)(m:ManD):Prop:=Fa ws0 m/\DU lim 0 m
def EL (A:ManD->Prop)(k:Nat)(ws0:List Ev)(lim:Option Nat)(er:Int)(m m':ManD):Prop:=lim=none/\EF A k ws0 er m m'
def E0 (ws0:List Ev)(lim:Option Nat)(k room:Nat):Prop:=∀ M,lim=some M->ws0=[]/\M+k<=room
theorem Ly (h:E0 ws0 lim k room)(h1:DU lim 0 m)(h2:m'.d.pool.room+1<=m.d.pool.many+k)(h3:m'.d.pool.room=room):lim=none:=by
 cases lim with
 | none=>rfl
 | some M =>
   have:=(h M rfl).2;have:=h1 M rfl;omega
theorem Lz (h:E0 ws0 lim k room)(h1:ev::ws <:+ ws0):DU lim k' m:=fun M e=>by
 have:=(h M e).1;subst this;simp at h1
abbrev WR:=@Nat.pow_pos
theorem Rk (hK:Bb K)(ws0:List Ev)(lim:Option Nat)(hlim:E0 ws0 lim (2^n-1) room)(hhap:∀ ev∈ws0,HapG K n Od room w0 mb fs nx ev)(bf bg bh:Nat){kf kg kh:Int}{H:BF}(hf:(kf,F)∈fs)(hg:(kg,G)∈fs)(hh:(kh,H)∈fs) :
 OpG K n Od room w0 mb fs nx (C3 bf bg bh) (B3 bf bg bh kf kg kh) (StL ws0 lim) 146 #[Pt bf,Pt bg,Pt bh] (QF ws0 lim (2^n-1) (Bu F G H)) (EL (SatX K n Od room w0 mb fs nx) (2^n-1) ws0 lim):=by
 intro o W m V xb g0 hB hC g1 g7 hnx;obtain⟨f,hf,ef1⟩:=g0.find hf;obtain⟨g,hg,ef2⟩:=g0.find hg;obtain⟨h,hh,ef3⟩:=g0.find hh;have hk:=g0.ok;have g8:=g0.lt;have gd:=hk.store;obtain⟨s,hm⟩:=g0.is;have g2:Bw W W.drew:=An W 1;have g6:=hm.below g8 g2;have ga:=g8.mono g2.size;have g5:BO o W.drew xb mb:=⟨(g2.cell (p:=Av xb) (Ah g7.cell)).trans g7.cell,g7.own⟩;have df:=(g2.cell (p:=Av bf) (Ah hB.f)).trans hB.f;have dg:=(g2.cell (p:=Av bg) (Ah hB.g)).trans hB.g;have dh:=(g2.cell (p:=Av bh) (Ah hB.h)).trans hB.h;have of:=(hC bf (.inl rfl)).2;have og:=(hC bg (.inr (.inl rfl))).2;have oh:=(hC bh (.inr (.inr rfl))).2;have gj:=Hd (FP ⟨s,g6⟩ g5 hk.handles.nodup hf);have gi:=Hd (FP ⟨s,g6⟩ g5 hk.handles.nodup hg);have gh:=Hd (FP ⟨s,g6⟩ g5 hk.handles.nodup hh);have ge:=Hd (P9 hK n o W.drew xb mb m V f g h ⟨s,g6⟩ ga g5 gd (hk.handles.ok _ hf) (hk.handles.ok _ hg) (hk.handles.ok _ hh) (by rw[g0.vars];omega));obtain⟨P,hP⟩:∃ P:Ending->Wd->Prop,P=fun e w'=>∃ (o':Own) (m':ManD) (V':Nat->BF),CM (C3 bf bg bh) K o W mb m V o' w' m' V'/\B3 bf bg bh kf kg kh w' /\
  ((∃ r:Nat,e=.returned (Iv r)/\okE (Aa m'.d) r/\QF ws0 lim (2^n-1) (Bu F G H) w' m' V' r) \/
   (∃ er:Int,e=AV er false ev0/\er≠0/\m'.waits=m.waits/\StL ws0 lim m'/\EL (SatX K n Od room w0 mb fs nx) (2^n-1) ws0 lim er m m') \/
   (∃ ev,e=AV 0 true ev/\m.waits=ev::m'.waits/\StE K n Od room w0 mb fs nx (StL ws0 lim) m'/\HapG K n Od room w0 mb fs nx ev)):=⟨_,rfl⟩
 have gf:Hq (∀ e w',K0 K n o W.drew mb m V f g h e w'->(∃ v,e=.returned v/\(w'.cell? (Av bf)=some (Iv kf)/\w'.cell? (Av bg)=some (Iv kg)/\w'.cell? (Av bh)=some (Iv kh))/\P (.returned v) w')\/(∃ ch,e=.panicked ch/\P (.panicked ch) w')):=by
  refine Hd ?_;subst hP;rintro e w' ⟨o',m',V',st,g9⟩;have g3:B3 bf bg bh kf kg kh w':=⟨st.chg.cell df of,st.chg.cell dg og,st.chg.cell dh oh⟩;have stx:CM (C3 bf bg bh) K o W mb m V o' w' m' V':=Step.toX (K:=K) ⟨st.is,st.lt,(Chg.of_below g2 _ o).trans st.chg,st.ok,st.ext,st.hs,st.next⟩ _;have hp2:0<2^n:=WR (by omega);rcases g9 with ⟨r,rfl,h1,h2,h3⟩|⟨rfl,h2,h3,h4⟩|⟨ev,rfl,h1⟩
  . refine .inl ⟨_,rfl,⟨g3.f,g3.g,g3.h⟩,o',m',V',stx,g3,.inl ⟨r,rfl,h1.okR,?_,by rw[h2];exact g1.1,fun M e=>by have:=g1.2 M e;omega⟩⟩;have e1:=(st.ext.ef (hk.handles.ok _ hf)).trans ef1;have e2:=(st.ext.ef (hk.handles.ok _ hg)).trans ef2;have e3:=(st.ext.ef (hk.handles.ok _ hh)).trans ef3;dsimp only at e1 e2 e3;funext ρ;rw[h1.val ρ,e1,e2,e3];rfl
  . have gc:lim=none:=Ly hlim g1.2 (by rw[<- h3];omega) (by rw[st.ext.room];exact g0.room);exact .inr ⟨_,rfl,o',m',V',stx,g3,.inr (.inl ⟨7,rfl,by omega,h2,⟨by unfold Fa;rw[h2];exact g1.1,by subst gc;exact fun M e=>by cases e⟩,gc,rfl,⟨_,_,_,g0⟩,h3,by omega,by rw[h2];exact g1.1⟩)⟩
  ·refine .inr ⟨_,rfl,o',m',V',stx,g3,.inr (.inr ⟨ev,rfl,h1,?_,?_⟩)⟩
   all_goals
    have g4:m.waits <:+ ws0:=g1.1;rw[h1] at g4
    first|exact fun _ _ _ _ _ e _ _=>⟨by unfold Fa;rw[e];exact(List.suffix_cons ev m'.waits).trans g4,Lz hlim g4⟩|exact hhap ev (g4.subset (VW ..))
 rw[<- hP];clear hm gd hk g7 hB hC g1 hnx hhap hlim hK g8 hf hg hh of og oh g6 ga g5 g2 g0 hP ef1 ef2 ef3
 go_enter func146,ntmps146
 go_upto_region 1 with fail;refine Lv (fun W:Wd=>W.cell? (Av bf)=some (Iv kf)/\W.cell? (Av bg)=some (Iv kg)/\W.cell? (Av bh)=some (Iv kh)) (fun ch w'=>P (.panicked ch) w') 12 (fun c a w hd h=>⟨hd,h⟩) (by kernel_rfl) ⟨df,dg,dh⟩ ?_;refine Dm 0 rfl rfl (by kernel_rfl) ?_;apply Exists.intro;refine⟨fun w' hw=>?_,?_⟩
 . obtain⟨q1,q2,q3⟩:=hw;go_simp;rfl
 simp only[Ac];refine Dm 1 rfl rfl (by kernel_rfl) ?_;apply Exists.intro;refine⟨fun w' hw=>?_,?_⟩
 . obtain⟨q1,q2,q3⟩:=hw;go_simp;rfl
 simp only[Ac];refine Dm 2 rfl rfl (by kernel_rfl) ?_;apply Exists.intro;refine⟨fun w' hw=>?_,?_⟩
 . obtain⟨q1,q2,q3⟩:=hw;go_simp;rfl
 simp only[Ac];refine Dm 4 rfl rfl (by kernel_rfl) ?_;apply Exists.intro;refine⟨fun w' hw=>?_,?_⟩
 . obtain⟨q1,q2,q3⟩:=hw;go_simp;rfl
 simp only[Ac];refine Dm 5 rfl rfl (by kernel_rfl) ?_;apply Exists.intro;refine⟨fun w' hw=>?_,?_⟩
 . obtain⟨q1,q2,q3⟩:=hw;go_simp;rfl
 simp only[Ac];refine Dm 7 rfl rfl (by kernel_rfl) ?_;apply Exists.intro;refine⟨fun w' hw=>?_,?_⟩
 . obtain⟨q1,q2,q3⟩:=hw;go_simp;rfl
 simp only[Ac];refine Dm 8 rfl rfl (by kernel_rfl) ?_;apply Exists.intro;refine⟨fun w' hw=>?_,?_⟩
 . obtain⟨q1,q2,q3⟩:=hw;go_simp;rfl
 simp only[Ac];refine Ez [3] (by kernel_rfl) (fun i hi hS o ho=>?_);simp only[CP] at hi;subst hi;simp only[CF] at ho;subst ho;refine⟨rfl,?_⟩;refine Dk (v:=Iv (f:Nat)) (R:=fun w'=>W.drew=w') (by go_simp) gj.o ?_;rintro w' rfl;refine⟨⟨df,dg,dh⟩,?_⟩;simp only[Ac];refine Ez [6] (by kernel_rfl) (fun i hi hS o ho=>?_);simp only[CP] at hi;subst hi;simp only[CF] at ho;subst ho;refine⟨rfl,?_⟩;refine Dk (v:=Iv (g:Nat)) (R:=fun w'=>W.drew=w') (by go_simp) gi.o ?_;rintro w' rfl;refine⟨⟨df,dg,dh⟩,?_⟩;simp only[Ac];refine Ez [9] (by kernel_rfl) (fun i hi hS o ho=>?_);simp only[CP] at hi;subst hi;simp only[CF] at ho;subst ho;refine⟨rfl,?_⟩;refine Dk (v:=Iv (h:Nat)) (R:=fun w'=>W.drew=w') (by go_simp) gh.o ?_;rintro w' rfl;refine⟨⟨df,dg,dh⟩,?_⟩;simp only[Ac];refine Ez [10] (by kernel_rfl) (fun i hi hS o ho=>?_);simp only[CP] at hi;subst hi;simp only[CF] at ho;subst ho;refine⟨rfl,?_⟩;refine Lx (R:=fun v w'=>(w'.cell? (Av bf)=some (Iv kf)/\w'.cell? (Av bg)=some (Iv kg)/\w'.cell? (Av bh)=some (Iv kh))/\P (.returned v) w') (R2:=fun ch w'=>P (.panicked ch) w') (by go_simp) (ge.o.mono gf.o) ?_ ?_
 ·rintro v w' ⟨hS,g1⟩;refine⟨hS,?_⟩;have gg:=Hd g1;clear g1;simp only[Ac];refine Dm 11 rfl rfl (by kernel_rfl) ?_;apply Exists.intro;refine⟨fun w' hw=>?_,?_⟩
  . go_simp;rfl
  simp only[Ac];refine Lw (by kernel_rfl) ?_;clear hS df dg dh;go_wp2_with fail;exact gg.o
 . intro ch w' g1;exact⟨rfl,g1⟩
abbrev C1 (b:Nat):Nat->Prop:=fun k=>k=b
structure B1 (b:Nat)(v:Int)(W:Wd):Prop where
 c:W.cell? (Av b)=some (Iv v)
theorem B1.keep {b:Nat}{v:Int}(W W':Wd)(h:B1 b v W)(hk:∀ c,C1 b c->W'.heap[c]?=W.heap[c]?):B1 b v W':=⟨Co h.c (hk _ rfl)⟩
theorem Rl (hK:Bb K)(ws0:List Ev)(lim:Option Nat)(hlim:E0 ws0 lim 1 room)(hhap:∀ ev∈ws0,HapG K n Od room w0 mb fs nx ev)(v vb:Nat)(hv:v<n) :
 OpG K n Od room w0 mb fs nx (C1 vb) (B1 vb v) (StL ws0 lim) 144 #[Pt vb] (QF ws0 lim 1 (varF v)) (EL (SatX K n Od room w0 mb fs nx) 1 ws0 lim):=by
 intro o W m V xb g1 hB hC g0 hx hnx;have hk:=g1.ok;have g9:=g1.lt;have g2:=hk.store;have o0:okE (Aa m.d) 0:=.inl rfl;have o1:okE (Aa m.d) 1:=.inl rfl;have g4:lvE m.d.vars.length (levN m.d) (Aa m.d) 0=m.d.vars.length:=Im g2 rfl;have gd:lvE m.d.vars.length (levN m.d) (Aa m.d) 1=m.d.vars.length:=Im g2 rfl;have g8:v<m.d.vars.length:=by rw[g1.vars];exact hv
 have gc:=g2.dag.lt v g8;have gf:=Hd (Kz hK g1.is g9 hx g2 v 1 0 o1 o0);have cvb:=hB.c;have ob:=(hC vb rfl).2;obtain⟨P,hP⟩:∃ P:Ending->Wd->Prop,P=fun e w'=>∃ (o':Own) (m':ManD) (V':Nat->BF),CM (C1 vb) K o W mb m V o' w' m' V'/\B1 vb v w' /\
  ((∃ r:Nat,e=.returned (Iv r)/\okE (Aa m'.d) r/\QF ws0 lim 1 (varF v) w' m' V' r) \/
   (∃ er:Int,e=AV er false ev0/\er≠0/\m'.waits=m.waits/\StL ws0 lim m'/\EL (SatX K n Od room w0 mb fs nx) 1 ws0 lim er m m') \/
   (∃ ev,e=AV 0 true ev/\m.waits=ev::m'.waits/\StE K n Od room w0 mb fs nx (StL ws0 lim) m'/\HapG K n Od room w0 mb fs nx ev)):=⟨_,rfl⟩
 have ga:Hq (∀ e w',FM K o W mb m V v 1 0 e w'->(∃ r:Nat,e=.returned (Iv r)/\P (.returned (Iv r)) w')\/(∃ er evt ev,e=AV er evt ev/\P (AV er evt ev) w')):=by
  refine Hd ?_;subst hP;rintro e w' ⟨o',m',V',st,g7⟩;have g5:B1 vb v w':=⟨st.chg.cell cvb ob⟩;have stx:CM (C1 vb) K o W mb m V o' w' m' V':=st.toX _;rcases g7 with ⟨ev,h1,_,_,_,_,rfl⟩|⟨h1,_,_,(⟨er,ge,hd,_,rfl⟩|⟨_,_,r,rfl,h2,h3,_,h5⟩)⟩
  ·refine .inr ⟨0,true,ev,rfl,o',m',V',stx,g5,.inr (.inr ⟨ev,rfl,h1,?_,?_⟩)⟩
   all_goals
    have g3:m.waits <:+ ws0:=g0.1;rw[h1] at g3
    first|exact fun _ _ _ _ _ e _ _=>⟨by unfold Fa;rw[e];exact(List.suffix_cons ev m'.waits).trans g3,Lz hlim g3⟩|exact hhap ev (g3.subset (VW ..))
  ·refine .inr ⟨er,false,ev0,rfl,o',m',V',stx,g5,.inr (.inl ?_)⟩;rcases ge with ⟨_,h⟩|⟨_,_,_,h⟩|⟨rfl,h⟩
   . exact(h ⟨by omega,by omega⟩).elim
   . simp only[Int.toNat_natCast] at h;omega
   . have g4:lim=none:=Ly (m':=m') hlim g0.2 (by rw[hd];omega) (by rw[st.ext.room];exact g1.room);exact⟨7,rfl,by omega,h1,⟨by unfold Fa;rw[h1];exact g0.1,by subst g4;exact fun M e=>by cases e⟩,g4,rfl,⟨_,_,_,g1⟩,by rw[hd];exact h,by rw[hd];omega,by rw[h1];exact g0.1⟩
  . refine .inl ⟨r,rfl,o',m',V',stx,g5,.inl ⟨r,rfl,h2,?_,by rw[h1];exact g0.1,fun M e=>by have:=g0.2 M e;omega⟩⟩;rw[h3];funext ρ;have a0:=Em g2.dag.one ρ;have a1:=En g2.dag.one ρ;simp only[iteF,varF,Int.toNat_natCast,a0,a1];cases ρ v<;>rfl
 rw[<- hP];clear g2 o0 o1 g4 gd gc g8 hk hx hC hK hv g9 hB hnx g0 hP ob g1 hlim
 go_enter func144,ntmps144
 go_wp2_with fail;refine gf.o.mono ?_;intro e w' hp;rcases ga.o e w' hp with ⟨r,rfl,g0⟩|⟨er,evt,ev,rfl,g0⟩
 . have g6:=Hd g0;clear hp g0;go_wp2_with fail;exact g6.o
 . have g6:=Hd g0;clear hp g0;unfold AV;go_wp2_with fail;exact⟨rfl,g6.o⟩
def DV (K:Law)(n:Nat)(Od:List Nat->Prop)(room:Nat)(w0:Wd)(mb:Nat)(fs:List (Int×BF))(nx:Int)(ws0:List Ev)(lim:Option Nat)(k:Nat)(F:BF)(o:Own)(w:Wd)(x:Ending)(w':Wd):Prop :=
 ∃ o' m' V',ChgX NoB o o' w w'/\m'.waits <:+ ws0/\((x=.returned (.tuple #[Iv nx,Iv 0])/\DU lim k m'/\SatE K n Od room w0 mb (fs++[(nx,F)]) (nx+1) w' o' m' V') \/
  (x=.returned (.tuple #[Iv 0,Iv 7])/\lim=none/\SatE K n Od room w0 mb fs nx w' o' m' V'/\∃ m0,SatX K n Od room w0 mb fs nx m0/\m0.d.dead=0/\room+1<=m0.d.pool.many+k))
theorem StL.coll (m:ManD)(d:Ae)(h:StL ws0 lim m)(r:AJ m.d d):StL ws0 lim { m with d:=d }:=⟨h.1,fun M e=>by have:=h.2 M e;have:=r.many;show d.pool.many<=M+0;omega⟩
theorem L0 {o:Own}{B:Wd->Prop}{x:Ending}(hb:Bw w w1)(hC:∀ c,C c->w.heap.size<=c)
 (h:IE K n Od room w0 mb fs nx C B (QF ws0 lim k F) (EL (SatX K n Od room w0 mb fs nx) k ws0 lim) o w1 x w'):DV K n Od room w0 mb fs nx ws0 lim k F o w x w':=by
 obtain⟨o',m',V',_,hc,g0⟩:=h;have g1:ChgX NoB o o' w w':=(ChgX.of_below hb o NoB).trans hc (fun k hk e=>by have:=hC k e;omega);rcases g0 with ⟨r,m1,rfl,hs,⟨q1,q2,q4⟩,_,_,_,_,q5,q3,_⟩|⟨er,m0,_,rfl,hs,⟨g3,rfl,g2,h1,h2,h3⟩,h7⟩
 . exact⟨o',m',V',g1,by rw[q3];exact q2,.inl ⟨rfl,fun M e=>by rw[q5];exact q4 M e,by rw[<- q1];exact hs⟩⟩
 . refine⟨o',m',V',g1,h3,.inr ⟨rfl,g3,hs,m0,g2,h7 rfl,?_⟩⟩;have:=hs.room;omega
theorem Rm (hK:Bb K){o:Own}(h:SatE K n Od room w0 mb fs nx w o m V)(ws0:List Ev)(hws:m.waits <:+ ws0)(lim:Option Nat)(hlim:E0 ws0 lim (2^n-1) room)(hl0:DU lim 0 m)(hhap:∀ ev∈ws0,HapG K n Od room w0 mb fs nx ev)(hn:nx<1099511627776)
 {kf kg kh:Int} {F G H:BF} (hf:(kf,F)∈fs) (hg:(kg,G)∈fs) (hh:(kh,H)∈fs) :
 Cl 94 #[Pt mb,Iv kf,Iv kg,Iv kh] w (DV K n Od room w0 mb fs nx ws0 lim (2^n-1) (Bu F G H) o w):=by
 have g1:∀ (fn:Fn) (first cap:Array Value) (w:Wd),(Instr.makeFunc fn first cap).run prog w=.ok (.func fn first cap) w:=fun _ _ _ _=>rfl
 obtain⟨hb,cf,cg,ch⟩:=PS kf kg kh w;have hw0:=h.chg.size;have hz:(box3 kf kg kh w).heap.size=w.heap.size+3:=by simp[box3]
 have g0:Hq (Cl 143 #[Pt mb,.func (.func 146) #[] #[Pt w.heap.size,Pt (w.heap.size+1),Pt (w.heap.size+1+1)]] (box3 kf kg kh w) (DV K n Od room w0 mb fs nx ws0 lim (2^n-1) (Bu F G H) o w)):=by
  refine Hd ?_;refine(Lu hK B3.keep (fun _ _ _ _ _ h _=>h) StL.coll ?_ PR (Rk hK ws0 lim hlim hhap w.heap.size (w.heap.size+1) (w.heap.size+1+1) hf hg hh) (h.below hb) ⟨cf,cg,ch⟩ ?_ ⟨hws,hl0⟩ hn).mono fun x w' hp=>L0 hb ?_ hp
  . rintro c (rfl|rfl|rfl)<;>omega
  . rintro c (rfl|rfl|rfl)<;>exact⟨by omega,h.lt.none (by omega)⟩
  . rintro c (rfl|rfl|rfl)<;>omega
 have HW:Hq (_=box3 kf kg kh w):=Hd (show ((w.alloc (.cells #[Iv kf] 3)).alloc (.cells #[Iv kg] 3)).alloc (.cells #[Iv kh] 3)=box3 kf kg kh w from rfl);clear h hK hws hhap hn hf hg hh hb cf cg ch hw0 hz hlim hl0;obtain⟨P,hP⟩:=Ex (DV K n Od room w0 mb fs nx ws0 lim (2^n-1) (Bu F G H) o w);rw[<- hP] at g0 ⊢;have HT:Hq (∀ x w',P x w'->∃ a b,x=.returned (.tuple #[Iv a,Iv b])):=by
  refine Hd ?_;subst hP;rintro x w' ⟨_,_,_,_,_,(⟨rfl,_⟩|⟨rfl,_⟩)⟩
  . exact⟨_,_,rfl⟩
  . exact⟨_,_,rfl⟩
 clear hP
 go_enter func94,ntmps94
 go_wp2_with fail;rw[HW.o];refine g0.o.mono ?_;intro x w' hd;obtain⟨a,b,rfl⟩:=HT.o x w' hd;have HD:=Hd hd;clear hd;go_wp2_with fail;exact HD.o
theorem Rn (hK:Bb K){o:Own}(h:SatE K n Od room w0 mb fs nx w o m V)(ws0:List Ev)(hws:m.waits <:+ ws0)(lim:Option Nat)(hlim:E0 ws0 lim 1 room)(hl0:DU lim 0 m)(hhap:∀ ev∈ws0,HapG K n Od room w0 mb fs nx ev)(hn:nx<1099511627776)
 (v:Nat) (hv:v<n) :
 Cl 93 #[Pt mb,Iv v] w (DV K n Od room w0 mb fs nx ws0 lim 1 (varF v) o w):=by
 have gc:∀ (fn:Fn) (first cap:Array Value) (w:Wd),(Instr.makeFunc fn first cap).run prog w=.ok (.func fn first cap) w:=fun _ _ _ _=>rfl
 obtain⟨w1,g0⟩:=Ex (w.alloc (.cells #[Iv (v:Nat)] 3));have g1:Bw w w1:=by rw[g0];exact Af w _
 have g5:w1.heap[w.heap.size]?=some (.cells #[Iv (v:Nat)] 3 (0,0)):=by rw[g0];exact Vq w _
 have cvb:w1.cell? (Av w.heap.size)=some (Iv (v:Nat)):=cell1 g5;have g8:w1.heap.size=w.heap.size+1:=by rw[g0];simp
 have hw0:=h.chg.size;obtain⟨s,g6⟩:=h.is;have g3:=g6.below h.lt g1;obtain⟨c0,c1,c2,c3,c4,c5,f0⟩:=cells6 g3.blk;obtain⟨ss,g2⟩:=g3.store;have g7:C9 m.d v=(levN m.d v:Nat):=Kx (by rw[g2.len,h.vars];exact hv);have g9:Hq (∀ n,Cl 142 #[Pt s.sb,Iv (v:Nat)] (w1.drewN n) fun x w'=>x=.returned (Iv (levN m.d v:Nat))/\w1.drewN n=w'):=by
  refine Hd fun n=>?_
  have:=Ik (g2.below (h.lt.mono g1.size) (An w1 n)) v (by rw[g2.len];have:=h.ok.store.small;omega);rw[g7] at this;exact this
 obtain⟨P,hP⟩:=Ex (DV K n Od room w0 mb fs nx ws0 lim 1 (varF v) o w);have ga:Hq (∀ q,Cl 143 #[Pt mb,.func (.func 144) #[] #[Pt w.heap.size]] (w1.drewN q) P):=by
  refine Hd fun q=>?_
  rw[hP];have g4:Bw w (w1.drewN q):=g1.trans ((An w1 q).mono g1.size);refine(Lu hK B1.keep (fun _ _ _ _ _ h _=>h) StL.coll ?_ PO (Rl hK ws0 lim hlim hhap v w.heap.size hv) (h.below g4) ⟨cvb⟩ ?_ ⟨hws,hl0⟩ hn).mono fun x w' hp=>L0 g4 ?_ hp
  . rintro c rfl;omega
  . rintro c rfl;exact⟨by have:=g4.size;show w.heap.size<w1.heap.size;omega,h.lt.none (by omega)⟩
  . rintro c rfl;omega
 have HT:Hq (∀ x w',P x w'->∃ a b,x=.returned (.tuple #[Iv a,Iv b])):=by
  refine Hd ?_;rw[hP];rintro x w' ⟨_,_,_,_,_,(⟨rfl,_⟩|⟨rfl,_⟩)⟩
  . exact⟨_,_,rfl⟩
  . exact⟨_,_,rfl⟩
 rw[<- hP];have HW:Hq (w.alloc (.cells #[Iv (v:Nat)] 3)=w1):=Hd g0.symm;clear g3 g2 g7 g6 g1 g5 g0 hK hn hv hws hhap h hw0 g8 hP hlim hl0
 go_enter func93,ntmps93
 go_upto_region 3 with fail;rw[HW.o]
 go_quiet (with_reducible exact C8 (g9.o _))
 go_wp2_with fail;refine(ga.o _).mono ?_;intro x w' hd;obtain⟨a,b,rfl⟩:=HT.o x w' hd;have HD:=Hd hd;clear hd;go_wp2_with fail;exact HD.o
section
variable {o:Own}
theorem SatE.eval (h:SatE K n Od room w0 mb fs nx w o m V){k:Int}(hk:(k,F)∈fs)(hbs:BQ w v bs) :
 Cl 125 #[Pt mb,Iv k,v] w (Bl (.tuple #[.bool (F (AF bs)),Iv 0]) w):=by
 obtain⟨f,hf,e1⟩:=h.find hk;obtain⟨a,c,rfl,h1,_⟩:=hbs;rw[<- e1];exact PW h.is h.lt h.ok hf a c bs h1
theorem SatE.vars_any (h:SatE K n Od room w0 mb fs nx w o m V):Cl 62 #[Pt mb] w (Sm (Iv n) w):=by
 have:=KA h.is;rw[h.vars] at this;exact this
theorem SatE.handles_any (h:SatE K n Od room w0 mb fs nx w o m V):Cl 73 #[Pt mb] w (Sm (Iv (fs.length:Nat)) w):=by
 have e:fs.length=m.hs.length:=by rw[<- h.hs,Vw]
 rw[e];exact Go.Proofs.YtkidaindpahefaaGreat.Vk h.is
abbrev Xq:=@beq_eq_false_iff_ne
theorem Ro (h:SatE K n Od room w0 mb fs nx w o m V)(q:Nat)(hq:q<=1000000) :
 Cl 29 #[Pt mb,Iv q] w (Sm (.bool (decide (fs.length=q+2))) w):=by
 have HH:=Hd h.handles_any;have HF:Hq ((((fs.length:Nat):Int) == (q:Int)+2)=decide (fs.length=q+2)):=by
  refine Hd ?_
  show (((fs.length:Nat):Int) == (q:Int)+2)=_
  by_cases e:fs.length=q+2
  . rw[We e,beq_iff_eq];omega
  . rw[VU e,Xq];omega
 clear h
 go_enter func29,ntmps29
 go_wp2_with fail;refine HH.o.mono ?_;rintro x w' ⟨rfl,rfl⟩;go_wp2_with fail;go_ret;exact⟨by rw[<- HF.o];rfl,rfl⟩
theorem Rp (i:Nat)(hi:i<=1048576):(IntKind.u64).wrap (i:Int)=(i:Int):=by
 simp[IntKind.wrap,IntKind.bits];omega
end
structure Gj (P:Nat->Prop)(w:Wd)(a:Option Addr)(us:List (List Bool)):Prop where
 len:us.length<=1000000
 cells:∀ k,k<us.length->∃ b off v,a=some (Aw b off)/\w.cell? (Aw b (off+k))=some v/\BQ w v (us.getD k [])/\∀ g,v.ownBlock=some g->P g
theorem Gj.below {P:Nat->Prop}{w w':Wd}{a:Option Addr}{us:List (List Bool)}(h:Gj P w a us)(hb:Bw w w'):Gj P w' a us :=
 ⟨h.len,fun k hk=>by
  obtain⟨b,off,v,rfl,hc,hv,hp⟩:=h.cells k hk;exact⟨b,off,v,rfl,(Cq hb hc),hv.below hb,hp⟩⟩
structure LawR (P:Nat->Prop)(n:Nat)(fs:List (Int×BF))(w:Wd)(vl vx:Value)(hs:List (Int×BF)):Prop where
 sub:∀ p∈hs,p∈fs
 small:hs.length<=1000
 l:∃ a c,vl=.slice a hs.length c/\Au w a (hs.map Prod.fst)
 x:∃ a c,vx=.slice a hs.length c/\Gj P w a (hs.map fun p=>tabB n p.2)
structure LawL (W:Wd)(o:Own)(base:Nat)(vl:Value)(ks:List Int):Prop where
 own:OwnC 3 W base vl (Aq ks)
 no:∀ k,vl.ownBlock=some k->o k=none
structure LawB (W:Wd)(o:Own)(base:Nat)(v:Value)(bs:List Bool):Prop where
 is:BQ W v bs
 no:∀ k,v.ownBlock=some k->base<=k/\k<W.heap.size/\o k=none/\∃ cur,W.heap[k]?=some (.cells cur 4 (0,0))
structure LawX (W:Wd)(o:Own)(base:Nat)(vx:Value)(us:List (List Bool)):Prop where
 ex:∃ rs:List Value,rs.length=us.length/\OwnC 90 W base vx rs/\∀ i v,rs[i]?=some v->LawB W o base v (us.getD i [])
 no:∀ k,vx.ownBlock=some k->o k=none
section
variable {o:Own}{us:List (List Bool)}
theorem LawL.chg (h:LawL W o base vl ks)(hc:ChgX NoB o o' W W'):LawL W' o' base vl ks :=
 ⟨h.own.same fun k hk=>hc.block k (h.own.lt k hk).2 (h.no k hk) (fun e=>e),fun k hk=>hc.none' (h.own.lt k hk).2 (h.no k hk)⟩
theorem LawB.chg (h:LawB W o base v bs)(hc:ChgX NoB o o' W W'):LawB W' o' base v bs :=
 ⟨h.is.same fun k hk=>hc.block k (h.no k hk).2.1 (h.no k hk).2.2.1 (fun e=>e),fun k hk=>by
  obtain⟨h1,h2,h3,cur,h4⟩:=h.no k hk;exact⟨h1,VH h2 hc.size,hc.none' h2 h3,cur,(hc.block k h2 h3 (fun e=>e)).trans h4⟩⟩
theorem LawX.chg (h:LawX W o base vx us)(hc:ChgX NoB o o' W W'):LawX W' o' base vx us:=by
 obtain⟨rs,h1,h2,h3⟩:=h.ex;exact⟨⟨rs,h1,h2.same fun k hk=>hc.block k (h2.lt k hk).2 (h.no k hk) (fun e=>e),fun i v hv=>(h3 i v hv).chg hc⟩,fun k hk=>hc.none' (h2.lt k hk).2 (h.no k hk)⟩
theorem CU (hb:Bw W W')(o:Own):ChgX NoB o o W W':=ChgX.of_below hb o NoB
theorem LawL.typ (h:LawL W o base vl ks)(hw:Wr C W W')(hT:T≠3)(hC:∀ k,C k->∃ cur,W.heap[k]?=some (.cells cur T (0,0))):LawL W' o base vl ks :=
 ⟨h.own.same fun k hk=>hw.keep k (h.own.lt k hk).2 fun e=>by
  obtain⟨c1,h1⟩:=hC k e;obtain⟨c2,h2⟩:=h.own.typed k hk;rw[h1] at h2;cases h2;exact hT rfl,h.no⟩
theorem LawB.typ (h:LawB W o base v bs)(hw:Wr C W W')(hT:T≠4)(hC:∀ k,C k->∃ cur,W.heap[k]?=some (.cells cur T (0,0))):LawB W' o base v bs:=by
 have hk:∀ k,v.ownBlock=some k->W'.heap[k]?=W.heap[k]?:=fun k hk=>by
  obtain⟨h1,h2,h3,cur,h4⟩:=h.no k hk;exact hw.keep k h2 fun e=>by
   obtain⟨c1,q1⟩:=hC k e;rw[q1] at h4;cases h4;exact hT rfl
 exact⟨h.is.same hk,fun k g0=>by
  obtain⟨h1,h2,h3,cur,h4⟩:=h.no k g0;exact⟨h1,VH h2 hw.size,h3,cur,(hk k g0).trans h4⟩⟩
theorem LawX.typ {C:Nat->Prop}(h:LawX W o base vx us)(hw:Wr C W W'){T:TypeId}(hT:T≠4)(hT2:T≠90)(hC:∀ k,C k->∃ cur,W.heap[k]?=some (.cells cur T (0,0))):LawX W' o base vx us:=by
 obtain⟨rs,h1,h2,h3⟩:=h.ex
 exact⟨⟨rs,h1,h2.same fun k hk=>hw.keep k (h2.lt k hk).2 fun e=>by
  obtain⟨c1,q1⟩:=hC k e;obtain⟨c2,q2⟩:=h2.typed k hk;rw[q1] at q2;cases q2;exact hT2 rfl,fun i v hv=>(h3 i v hv).typ hw hT hC⟩,h.no⟩
theorem Gk (h1:W'.os=W.os)(h2:W'.tape=W.tape)(h3:W'.output=W.output)(h4:W.heap.size<=W'.heap.size)(hk:BT v v' W W'):Wr (fun k=>v.ownBlock=some k) W W' :=
 ⟨h1,h2,h3,h4,fun k hlt hn=>hk.keep k hlt (fun e=>hn e.symm)⟩
theorem LawL.app {k:Int}(h:LawL W o base vl ks)(hlt:Ab o W)(hn:OwnC 3 W' base v' (Aq ks++[Iv k]))(hk:BT vl v' W W'):LawL W' o base v' (ks++[k]):=by
 refine⟨by rw[show Aq (ks++[k])=Aq ks++[Iv k] by simp[Aq]];exact hn,fun q hq=>?_⟩;rcases hk.loc with e|⟨g,e,hg⟩
 . exact h.no q (by rw[<- e];exact hq)
 . rw[e] at hq;cases hq;exact hlt.none hg
theorem LawX.app (h:LawX W o base vx us)(hlt:Ab o W){rs:List Value}(hrs:rs.length=us.length)(hall:∀ i v,rs[i]?=some v->LawB W o base v (us.getD i []))(hw:Wr (fun k=>vx.ownBlock=some k) W W')(hT:∀ k,vx.ownBlock=some k->∃ cur,W.heap[k]?=some (.cells cur 90 (0,0)))
 (hb:LawB W o base v bs) (hn:OwnC 90 W' base v' (rs++[v])) (hk:BT vx v' W W'):LawX W' o base v' (us++[bs]):=by
 refine⟨⟨rs++[v],by simp[hrs],hn,fun i u hu=>?_⟩,fun q hq=>?_⟩
 ·rcases VB i rs.length with hi|hi
  ·rw[VN hi] at hu;have e:(us++[bs]).getD i []=us.getD i []:=by simp[List.getD,VN (show i<us.length by omega)]
   rw[e];exact(hall i u hu).typ hw (by decide) hT
  ·rw[Wh hi] at hu;have g0:i=rs.length:=by
    have:=(Wf.1 hu).1;simp at this;omega
   subst g0;simp at hu;subst hu;have e:(us++[bs]).getD rs.length []=bs:=by rw[hrs];simp[List.getD]
   rw[e];exact hb.typ hw (by decide) hT
 ·rcases hk.loc with e|⟨g,e,hg⟩
  . exact h.no q (by rw[<- e];exact hq)
  . rw[e] at hq;cases hq;exact hlt.none hg
theorem Rq {n:Nat}(h:OwnB W' W.heap.size v bs)(hl:bs.length<=1000000)(hlt:Ab o W)(hb:base<=W.heap.size):LawB W' o base v bs :=
 ⟨OwnC.boolsIs h hl,fun k hk=>by
  have h1:=h.lt k hk;exact⟨by omega,h1.2,hlt.none h1.1,h.typed k hk⟩⟩
theorem IF (hl:LawL W o base vl (hs.map Prod.fst))(hx:LawX W o base vx (hs.map fun p=>tabB n p.2))(hsub:∀ p∈hs,p∈fs)(hsm:hs.length<=1000) :
 LawR (fun g=>base<=g/\g<W.heap.size/\o g=none/\∃ cur,W.heap[g]?=some (.cells cur 4 (0,0))) n fs W vl vx hs:=by
 obtain⟨rs,h1,h2,h3⟩:=hx.ex;obtain⟨al,cl,e1,_⟩:=hl.own.slice;obtain⟨ax,cx,e2,_⟩:=h2.slice;have l1:(Aq (hs.map Prod.fst)).length=hs.length:=by simp[Aq]
 have l2:rs.length=hs.length:=by rw[h1];simp
 rw[l1] at e1;rw[l2] at e2;refine⟨hsub,hsm,⟨al,cl,e1,⟨by simp;omega,fun k hk=>?_⟩⟩,⟨ax,cx,e2,⟨by simp;omega,fun k hk=>?_⟩⟩⟩
 ·obtain⟨g,cap,e3,_⟩:=hl.own.shape (by rw[l1];simp at hk;omega);rw[e1] at e3;injection e3 with e3
  subst e3;have hc:=hl.own;rw[e1] at hc;refine⟨g,0,rfl,?_⟩;rw[VJ,hc.cell k (by rw[l1];simpa using hk),Aq,WN,getElem?_at0 hk];rfl
 ·obtain⟨g,cap,e3,_⟩:=h2.shape (by rw[l2];simp at hk;omega);rw[e2] at e3;injection e3 with e3
  subst e3;have hc:=h2;rw[e2] at hc;have g0:k<rs.length:=by rw[h1];exact hk
  have hb:=h3 k rs[k] (VD g0);refine⟨g,0,rs[k],rfl,?_,hb.is,hb.no⟩;rw[VJ,hc.cell k g0,VD g0]
end
structure EvsAt (w:Wd)(a:Option Addr)(l:List Ev):Prop where
 len:l.length<=9223372036854775807
 cells:∀ k,∀ hk:k<l.length,∃ b off,a=some (Aw b off)/\w.cell? (Aw b (off+k*3))=some (Iv l[k].after)/\w.cell? (Aw b (off+k*3+1))=some (Iv l[k].kind)/\w.cell? (Aw b (off+k*3+2))=some (Iv l[k].level)
theorem EvsAt.below {a:Option Addr}{l:List Ev}(h:EvsAt w a l)(hb:Bw w w'):EvsAt w' a l :=
 ⟨h.len,fun k hk=>by
  obtain⟨b,off,e,c0,c1,c2⟩:=h.cells k hk;exact⟨b,off,e,(Cq hb c0),(Cq hb c1),(Cq hb c2)⟩⟩
def CV (vars:Int)(e:Ev):Int:=if e.kind<1\/e.kind>3 then 11 else if e.after<1\/(e.kind=2/\(e.level<0\/e.level>vars-2)) then 2 else 0
def CW (vars:Int):List Ev->Int
 | []=>0
 | e::r=>if CV vars e=0 then CW vars r else CV vars e
def Bo (vars waits:Int)(l:List Ev):Int:=if (l.length:Int)>256-waits then 18 else CW vars l
theorem Gl {vars:Int}{l:List Ev}(hi:i<l.length):CW vars (l.drop i)=if CV vars l[i]=0 then CW vars (l.drop (i+1)) else CV vars l[i]:=by
 rw[VT hi];rfl
theorem Rr (vars waits:Int)(hv:0<=vars/\vars<=1000)(hw:0<=waits/\waits<=1000)(a:Option Addr)(c:Nat)(l:List Ev)(w:Wd)(h:EvsAt w a l) :
 Cl 49 #[Iv vars,Iv waits,.slice a l.length c] w (Sm (Iv (Bo vars waits l)) w):=by
 have HI:=Hd h;have hl:=h.len;clear h
 by_cases g1:(l.length:Int)>256-waits
 ·have HR:Hq (Bo vars waits l=18):=Hd (by unfold Bo;rw[Vs g1])
  go_enter func49,ntmps49
  go_wp2_with fail;go_ret;exact⟨by rw[HR.o];rfl,rfl⟩
 have HR:Hq (Bo vars waits l=CW vars (l.drop 0)):=Hd (by unfold Bo;rw[Vn g1];rfl);obtain⟨P,hP⟩:=Ex (Bo vars waits l);rw[<- hP] at HR ⊢;clear hP
 go_enter func49,ntmps49
 go_wp2_with fail
 go_loopw [7] (fun s7 wr=>∃ i:Nat,i<=l.length/\s7=Iv i/\w=wr/\Hq (P=CW vars (l.drop i))) (fun s7 _=>l.length-(intOf s7).toNat)
 case atStart=>exact⟨0,Vu _,rfl,rfl,HR⟩
 case round =>
  clear HR;obtain⟨i,hi,rfl,rfl,HP⟩:=hrel
  by_cases g2:i<l.length
  ·obtain⟨b,off,rfl,c0,c1,c2⟩:=HI.o.cells i g2;have g8:(i:Int)<l.length:=by omega
   have HC:Hq (∀ z:Int,CV vars l[i]=z->z≠0->P=z):=Hd fun z hz h0=>by rw[HP.o,Gl g2,hz,Vn h0]
   have HN:Hq (CV vars l[i]=0->P=CW vars (l.drop (i+1))):=Hd fun hz=>by rw[HP.o,Gl g2,hz,Vs rfl]
   have HE:Hq (CV vars l[i]=if l[i].kind<1\/l[i].kind>3 then 11 else if l[i].after<1\/(l[i].kind=2/\(l[i].level<0\/l[i].level>vars-2)) then 2 else 0):=Hd rfl;obtain⟨ev,g3⟩:=Ex (l[i]);rw[<- g3] at c0 c1 c2 HC HN HE;obtain⟨af,ki,le⟩:=ev;dsimp only at c0 c1 c2 HE;clear g3 HP;have g6:ki<1\/ki>3\/(ki=2)\/(ki=1\/ki=3):=by omega
   rcases g6 with hk|hk|hk|hk
   . have g0:=Hd (HC.o 11 (by rw[HE.o,Vs (.inl hk)]) (by decide));go_wp2_with fail;go_ret;exact⟨by rw[g0.o];rfl,rfl⟩
   ·have g0:=Hd (HC.o 11 (by rw[HE.o,Vs (.inr hk)]) (by decide));have g7:¬ ki<1:=by omega
    go_wp2_with fail;go_ret;exact⟨by rw[g0.o];rfl,rfl⟩
   ·by_cases ha:af<1
    . have g0:=Hd (HC.o 2 (by rw[HE.o,Vn (by omega),Vs (.inl ha)]) (by decide));subst hk;go_wp2_with fail;go_ret;exact⟨by rw[g0.o];rfl,rfl⟩
    ·by_cases g5:le<0
     . have g0:=Hd (HC.o 2 (by rw[HE.o,Vn (by omega),Vs (.inr ⟨hk,.inl g5⟩)]) (by decide));subst hk;go_wp2_with fail;go_ret;exact⟨by rw[g0.o];rfl,rfl⟩
     ·by_cases g4:le>vars-2
      . have g0:=Hd (HC.o 2 (by rw[HE.o,Vn (by omega),Vs (.inr ⟨hk,.inr g4⟩)]) (by decide));subst hk;go_wp2_with fail;go_ret;exact⟨by rw[g0.o];rfl,rfl⟩
      ·have g0:=Hd (HN.o (by rw[HE.o,Vn (by omega),Vn (by omega)]));subst hk;go_wp2_with fail;go_roundw
       case rel=>exact⟨i+1,by omega,by go_num,by simp,g0⟩
       case measure=>simp[intOf];omega
   ·have g7:¬ ki<1:=by omega
    have ga:¬ ki>3:=by omega
    have g9:(ki == 2)=false:=by simp;omega
    by_cases ha:af<1
    . have g0:=Hd (HC.o 2 (by rw[HE.o,Vn (by omega),Vs (.inl ha)]) (by decide));clear hk;go_wp2_with fail;go_ret;exact⟨by rw[g0.o];rfl,rfl⟩
    ·have g0:=Hd (HN.o (by rw[HE.o,Vn (by omega),Vn (by omega)]));clear hk;go_wp2_with fail;go_roundw
     case rel=>exact⟨i+1,by omega,by go_num,by simp,g0⟩
     case measure=>simp[intOf];omega
  ·have he:i=l.length:=by omega
   have g8:¬ (i:Int)<l.length:=by omega
   have g0:Hq (P=0):=Hd (by rw[HP.o,he,List.drop_length];rfl);clear he;go_wp2_with fail;go_ret;exact⟨by rw[g0.o];rfl,rfl⟩
def cntP (zs:List Int)(v:Int)(i:Nat):Nat:=((zs.take i).filter (fun z=>decide (z=v))).length
theorem DW {v:Int}(hi:i<zs.length)(h:at0 zs i=v):cntP zs v (i+1)=cntP zs v i+1:=by
 rw[Az hi] at h;unfold cntP;rw[Vt hi,Wl];simp[h]
theorem IG {v:Int}(hi:i<zs.length)(h:at0 zs i≠v):cntP zs v (i+1)=cntP zs v i:=by
 rw[Az hi] at h;unfold cntP;rw[Vt hi,Wl];simp[h]
theorem Rs (zs:List Int)(v:Int)(i:Nat):cntP zs v i<=i:=by
 unfold cntP;refine Vx (Wk _ _) ?_;rw[VQ];omega
def Bq (zs:List Int)(n:Int):Bool:=decide ((zs.length:Int)=n/\∀ v,v<zs.length->cntP zs (v:Nat) zs.length=1)
abbrev XF:=@Bool.eq_iff_iff
theorem II (a:Option Addr)(c:Nat)(zs:List Int)(n:Int)(w:Wd)(hz:Au w a zs)(hl:zs.length<=1000000) :
 Cl 23 #[.slice a zs.length c,Iv n] w (Sm (.bool (Bq zs n)) w):=by
 have HZ:=Hd hz;clear hz
 by_cases hn:(zs.length:Int)=n
 ·subst hn;have HR:Hq (∀ b:Bool,(b=true↔∀ v,v<zs.length->cntP zs (v:Nat) zs.length=1)->Bq zs zs.length=b):=by
   refine Hd fun b hb=>?_
   unfold Bq;rw[XF,hb];simp
  go_enter func23,ntmps23
  go_wp2_with fail
  go_loopw [5] (fun s5 wr=>∃ k:Nat,k<=zs.length/\s5=Iv k/\w=wr/\∀ v,v<k->cntP zs (v:Nat) zs.length=1) (fun s5 _=>zs.length-(intOf s5).toNat)
  case atStart=>exact⟨0,Vu _,rfl,rfl,fun v hv=>by omega⟩
  case round =>
   obtain⟨k,hk,rfl,rfl,g2⟩:=hrel;have HA:=Hd g2;clear g2
   by_cases g3:k<zs.length
   ·have g4:(k:Int)<zs.length:=by omega
    go_wp2_with fail
    go_loopw [6,7] (fun s6 s7 wx=>∃ i:Nat,i<=zs.length/\s7=Iv i/\s6=Iv (cntP zs (k:Nat) i:Nat)/\w=wx) (fun _ s7 _=>zs.length-(intOf s7).toNat)
    case atStart=>exact⟨0,Vu _,rfl,rfl,rfl⟩
    case round =>
     obtain⟨i,hi,rfl,rfl,rfl⟩:=hrel;have g6:=Rs zs (k:Nat) i
     by_cases g1:i<zs.length
     ·obtain⟨b,off,ha,hc⟩:=HZ.o.cells i g1;subst ha;have g5:(i:Int)<zs.length:=by omega
      by_cases he:at0 zs i=(k:Nat)
      ·rw[he] at hc;have HY:=Hd (DW g1 he);go_wp2_with fail;go_roundw
       case rel=>exact⟨i+1,by omega,by go_num,by rw[HY.o];go_num,trivial⟩
       case measure=>simp[intOf];omega
      ·have g0:((at0 zs i:Int) == (k:Nat))=false:=by simpa using he
       have HY:=Hd (IG g1 he)
       generalize at0 zs i=z at hc g0
       clear he;go_wp2_with fail;go_roundw
       case rel=>exact⟨i+1,by omega,by go_num,by rw[HY.o],trivial⟩
       case measure=>simp[intOf];omega
     ·obtain rfl:i=zs.length:=by omega
      generalize hq:cntP zs (k:Nat) zs.length=q at *
      by_cases h1:q=1
      ·subst h1;have HQ:=Hd hq;clear hq;go_wp2_with fail;go_roundw
       case rel =>
        refine⟨k+1,by omega,by go_num,trivial,fun v hv=>?_⟩
        by_cases e:v=k
        . subst e;exact HQ.o
        . exact HA.o v (by omega)
       case measure=>simp[intOf];omega
      ·have g0:((q:Int) == 1)=false:=by simp;omega
       have HQ:=Hd hq;clear hq;go_wp2_with fail;go_ret;refine⟨?_,rfl⟩
       rw[HR.o false (by
        simp only[Xy,false_iff];intro hh;exact h1 ((HQ.o).symm.trans (hh k g3)))]
       rfl
   ·obtain rfl:k=zs.length:=by omega
    go_wp2_with fail;go_ret;refine⟨?_,rfl⟩;rw[HR.o true (by simp only[true_iff];exact HA.o)];rfl
 ·have g0:(((zs.length:Nat):Int) == n)=false:=by simpa using hn
  have HR:Hq (Bq zs n=false):=by
   refine Hd ?_
   show Bq zs n=false
   unfold Bq;simp[hn]
  go_enter func23,ntmps23
  go_wp2_with fail;go_ret;exact⟨by rw[HR.o];rfl,rfl⟩
theorem Rt (a:Option Addr)(c:Nat)(zs:List Int)(n:Int)(w:Wd)(hz:Au w a zs)(hn:(zs.length:Int)≠n) :
 Cl 23 #[.slice a zs.length c,Iv n] w (Sm (.bool false) w):=by
 have hl:=hz.len;have g0:(((zs.length:Nat):Int) == n)=false:=by simpa using hn
 clear hz
 go_enter func23,ntmps23
 go_wp2_with fail;go_ret;exact⟨rfl,rfl⟩
theorem Ru (a:Option Addr)(c:Nat)(zs:List Int)(n:Int)(w:Wd)(hz:Au w a zs)(hn:n<=1000) :
 Cl 23 #[.slice a zs.length c,Iv n] w (Sm (.bool (Bq zs n)) w):=by
 by_cases h:(zs.length:Int)=n
 . exact II a c zs n w hz (by omega)
 ·have:Bq zs n=false:=by unfold Bq;simp[h]
  rw[this];exact Rt a c zs n w hz h
theorem A3.parts {e:ExT}{x0 x1 x2:Value}(h:A3 w e (.agg #[x0,x1,x2])):∃ op v a n c,x0=Iv op/\x1=Iv v/\x2=.slice a n c:=by
 cases e with
 | nil=>unfold A3 at h;exact h.elim
 | mk op v n kid =>
   unfold A3 at h;obtain⟨a,c,hx,_⟩:=h;cases hx;exact⟨_,_,_,_,_,rfl,rfl,rfl⟩
structure Fb (w:Wd)(a:Option Addr)(l:List ExT):Prop where
 len:l.length<=9223372036854775807
 cells:∀ k,∀ hk:k<l.length,∃ b off x0 x1 x2,a=some (Aw b off)/\w.cell? (Aw b (off+k*3))=some x0/\w.cell? (Aw b (off+k*3+1))=some x1/\w.cell? (Aw b (off+k*3+2))=some x2/\A3 w l[k] (.agg #[x0,x1,x2])
theorem Fb.below {w w':Wd}{a:Option Addr}{l:List ExT}(h:Fb w a l)(hb:Bw w w'):Fb w' a l :=
 ⟨h.len,fun k hk=>by
  obtain⟨b,off,x0,x1,x2,e,c0,c1,c2,hx⟩:=h.cells k hk;exact⟨b,off,x0,x1,x2,e,(Cq hb c0),(Cq hb c1),(Cq hb c2),hx.below hb⟩⟩
structure AskD where
 vars:Int
 order:List Int
 es:List ExT
 plan:List Ev
structure AskAt (w:Wd)(q:AskD)(ao ae ap:Option Addr):Prop where
 vars:okI q.vars
 order:Au w ao q.order
 es:Fb w ae q.es
 plan:EvsAt w ap q.plan
theorem AskAt.below {w w':Wd}{q:AskD}{ao ae ap:Option Addr}(h:AskAt w q ao ae ap)(hb:Bw w w'):AskAt w' q ao ae ap:=⟨h.vars,h.order.below hb,h.es.below hb,h.plan.below hb⟩
structure D7 (q:AskD):Prop where
 lo:1<=q.vars
 hi:q.vars<=6
 es:q.es.length<=5
 plan:q.plan.length<=6
 order:q.order.length>0->Bq q.order q.vars=true
 planOk:Bo q.vars 0 q.plan=0
 after:∀ ev∈q.plan,ev.after<=300
 expr:∀ e∈q.es,e.size<=40/\okT e 1/\∀ v∈AI e,v<q.vars
def askV (q:AskD)(ao ae ap:Option Addr)(co ce cp:Nat):Value:=.agg #[Iv q.vars,.slice ao q.order.length co,.slice ae q.es.length ce,.slice ap q.plan.length cp]
theorem Rv (q:AskD)(ao ae ap:Option Addr)(co ce cp:Nat)(w:Wd)(h:AskAt w q ao ae ap) :
 Cl 14 #[askV q ao ae ap co ce cp] w fun y w'=>∃ b,y=.returned (.bool b)/\(b=true->D7 q)/\Bw w w':=by
 obtain⟨vars,order,es,plan⟩:=q;obtain⟨hv,ho,he,hp⟩:=h;dsimp only [askV] at hv ho he hp ⊢;unfold okI at hv;have hd:=ho.len;have hm:=he.len;have hc:=hp.len;have HO:=Hd ho;have HE:=Hd he;have HP:=Hd hp;obtain⟨w1,gh⟩:=Ex (w.alloc (.cells #[Iv vars,.slice ao order.length co,.slice ae es.length ce,.slice ap plan.length cp] 26));have HW1:Hq (_=w1):=Hd gh.symm;have g9:Hq (Bw w w1):=by rw[gh];exact Hd (Af _ _)
 have g0:w1.heap[w.heap.size]?=some (.cells #[Iv vars,.slice ao order.length co,.slice ae es.length ce,.slice ap plan.length cp] 26 (0,0)):=by rw[gh];exact Vq _ _
 have d0:w1.cell? (Av w.heap.size)=some (Iv vars):=by rw[Vp _ _ 0 _ _ _ g0];rfl
 have d1:w1.cell? (Aw w.heap.size 1)=some (.slice ao order.length co):=by rw[Vp _ _ 1 _ _ _ g0];rfl
 have d2:w1.cell? (Aw w.heap.size 2)=some (.slice ae es.length ce):=by rw[Vp _ _ 2 _ _ _ g0];rfl
 have d3:w1.cell? (Aw w.heap.size 3)=some (.slice ap plan.length cp):=by rw[Vp _ _ 3 _ _ _ g0];rfl
 have hs1:w1.heap.size=w.heap.size+1:=by rw[gh];simp
 have ge:Hq (vars<=6->Cl 23 #[.slice ao order.length co,Iv vars] w1 (Sm (.bool (Bq order vars)) w1)):=Hd fun hh=>Ru ao co order vars w1 (HO.o.below g9.o) (by omega)
 have gf:Hq (0<=vars->vars<=6->Cl 49 #[Iv vars,Iv 0,.slice ap plan.length cp] w1 (Sm (Iv (Bo vars 0 plan)) w1)):=Hd fun h1 h2=>Rr vars 0 ⟨h1,by omega⟩ ⟨by omega,by omega⟩ ap cp plan w1 (HP.o.below g9.o)
 obtain⟨P,hP⟩:=Ex (fun y w'=>∃ b,y=.returned (.bool b)/\(b=true->D7 ⟨vars,order,es,plan⟩)/\Bw w w':Ending->Wd->Prop)
 have gl:Hq (∀ W,Bw w1 W->P (.returned (.bool false)) W):=by rw[hP];exact Hd fun W hb=>⟨false,rfl,by simp,g9.o.trans (hb.mono g9.o.size)⟩
 have gM:Hq (D7 ⟨vars,order,es,plan⟩->∀ W,Bw w1 W->P (.returned (.bool true)) W):=by rw[hP];exact Hd fun hq W hb=>⟨true,rfl,fun _=>hq,g9.o.trans (hb.mono g9.o.size)⟩
 rw[<- hP];clear ho he hp gh g0 hP
 go_enter func14,ntmps14
 go_upto_region 1 with fail;rw[HW1.o]
 go_cut [50] (fun s50 wx=>∃ bad:Bool,s50=.bool bad/\wx=w1/\Hq (bad=false->1<=vars/\vars<=6/\es.length<=5/\plan.length<=6/\(order.length>0->Bq order vars=true)/\Bo vars 0 plan=0))
 case first =>
  by_cases h1:vars<1
  ·go_wp2_with fail;go_meet
   case rel=>exact⟨true,rfl,rfl,Hd (by simp)⟩
  by_cases h2:vars>6
  ·go_wp2_with fail;go_meet
   case rel=>exact⟨true,rfl,rfl,Hd (by simp)⟩
  by_cases h3:(es.length:Int)>5
  ·go_wp2_with fail;go_meet
   case rel=>exact⟨true,rfl,rfl,Hd (by simp)⟩
  by_cases h4:(plan.length:Int)>6
  ·go_wp2_with fail;go_meet
   case rel=>exact⟨true,rfl,rfl,Hd (by simp)⟩
  have gf:=Hd (gf.o (by omega) (by omega));have ge:=Hd (ge.o (by omega));obtain⟨pr,gq⟩:=Ex (Bo vars 0 plan);rw[<- gq] at gf;have gI:=Hd gq;clear gq
  by_cases h5:(order.length:Int)>0
  ·obtain⟨rb,gp⟩:=Ex (Bq order vars);rw[<- gp] at ge;have gU:=Hd gp;clear gp;cases rb with
   | false =>
     go_wp2_with fail;refine ge.o.mono ?_;rintro y w' ⟨rfl,rfl⟩;go_wp2_with fail;go_meet
     case rel=>exact⟨true,rfl,rfl,Hd (by simp)⟩
   | true =>
     go_wp2_with fail;refine ge.o.mono ?_;rintro y w' ⟨rfl,rfl⟩;go_wp2_with fail;refine gf.o.mono ?_;rintro y w' ⟨rfl,rfl⟩
     by_cases h6:pr=0
     ·have gg:Hq (1<=vars/\vars<=6/\es.length<=5/\plan.length<=6/\(order.length>0->Bq order vars=true)/\Bo vars 0 plan=0):=Hd ⟨by omega,by omega,by omega,by omega,fun _=>gU.o.symm,by rw[<- gI.o,h6]⟩;subst h6;go_wp2_with fail;go_meet
      case rel=>exact⟨false,rfl,rfl,Hd fun _=>gg.o⟩
     ·have gS:(pr != 0)=true:=by simpa using h6
      clear h6;go_wp2_with fail;go_meet
      case rel=>exact⟨true,rfl,rfl,Hd (by simp)⟩
  ·go_wp2_with fail;refine gf.o.mono ?_;rintro y w' ⟨rfl,rfl⟩
   by_cases h6:pr=0
   ·have gg:Hq (1<=vars/\vars<=6/\es.length<=5/\plan.length<=6/\(order.length>0->Bq order vars=true)/\Bo vars 0 plan=0):=Hd ⟨by omega,by omega,by omega,by omega,fun _=>by omega,by rw[<- gI.o,h6]⟩;subst h6;go_wp2_with fail;go_meet
    case rel=>exact⟨false,rfl,rfl,Hd fun _=>gg.o⟩
   ·have gS:(pr != 0)=true:=by simpa using h6
    clear h6;go_wp2_with fail;go_meet
    case rel=>exact⟨true,rfl,rfl,Hd (by simp)⟩
 case rest =>
  obtain⟨bad,rfl,rfl,gB⟩:=hcut;clear ge gf;cases bad with
  | true =>
    go_wp2_with fail;exact gl.o _ (VA _ _)
  | false =>
    obtain⟨g1,g2,g3,g4,g5,g6⟩:=gB.o rfl;have gZ:=Hd g5;have gY:=Hd g6;clear g5 g6 gB;go_upto_region 3 with fail;go_wp2_with fail
    go_loopw [4,54] (fun s4 s54 wr=>∃ k:Nat,k<=plan.length/\s54=Iv k/\Bw wc wr/\Hq (∀ ev∈plan.take k,ev.after<=300)) (fun _ s54 _=>plan.length-(intOf s54).toNat)
    case atStart=>exact⟨0,Vu _,rfl,VA _ _,Hd fun ev he=>by simp at he⟩
    case round =>
     obtain⟨k,hk,rfl,g7,HA⟩:=hrel
     by_cases gi:k<plan.length
     ·obtain⟨b,off,rfl,c0,c1,c2⟩:=((HP.o.below g9.o).below g7).cells k gi;have gP:(k:Int)<plan.length:=by omega
      have g8:=Hd g7;have gk:Hq (∀ ev∈plan.take (k+1),ev∈plan.take k\/ev=plan[k]):=Hd fun ev he=>by
       rw[Vt gi,Vy,VF] at he;exact he
      obtain⟨ev,ga⟩:=Ex (plan[k]);rw[<- ga] at c0 c1 c2 gk;obtain⟨af,ki,le⟩:=ev;dsimp only at c0 c1 c2;clear ga g7
      by_cases hn:af>300
      . have HF:=Hd (gl.o _ (g8.o.trans ((Af wr (.cells #[Iv af,Iv ki,Iv le] 77)).mono g8.o.size)));go_wp2_with fail;exact HF.o
      ·have HF:=Hd (g8.o.trans ((Af wr (.cells #[Iv af,Iv ki,Iv le] 77)).mono g8.o.size));have h7:Hq (∀ ev∈plan.take (k+1),ev.after<=300):=Hd fun ev he=>by
        rcases gk.o ev he with h|rfl
        . exact HA.o ev h
        . dsimp only;omega
       go_wp2_with fail;go_roundw
       case rel=>exact⟨k+1,by omega,by go_num,HF.o,h7⟩
       case measure=>simp[intOf];omega
     ·have h0:Hq (∀ ev∈plan,ev.after<=300):=Hd fun ev ga=>HA.o ev (by rw[WA (by omega)];exact ga)
      have gP:¬ (k:Int)<plan.length:=by omega
      have d0':=Cq g7 d0;have d2':=Cq g7 d2;have g8:=Hd g7;obtain⟨wA,ha⟩:=Ex wr;clear g7;go_wp2_with fail
      go_loopw [6,8,65] (fun s6 s8 s65 wx=>∃ k:Nat,k<=es.length/\s65=Iv k/\Bw wc wx/\Hq (∀ e∈es.take k,e.size<=40/\okT e 1/\∀ v∈AI e,v<vars)) (fun _ _ s65 _=>es.length-(intOf s65).toNat)
      case atStart=>exact⟨0,Vu _,rfl,g8.o,Hd fun ev he=>by simp at he⟩
      case round =>
       rename Wd=>wy
       obtain⟨j,hj,rfl,gj,HB⟩:=hrel
       by_cases gi:j<es.length
       ·obtain⟨b,off,x0,x1,x2,rfl,c0,c1,c2,hx⟩:=((HE.o.below g9.o).below gj).cells j gi;have gQ:(j:Int)<es.length:=by omega
        have gK:=Hd gj;have gk:Hq (∀ e∈es.take (j+1),e∈es.take j\/e=es[j]):=Hd fun e he=>by
         rw[Vt gi,Vy,VF] at he;exact he
        have gv:=Cq gj d0;obtain⟨e,ga⟩:=Ex (es[j]);rw[<- ga] at hx gk;have HX:=Hd hx;obtain⟨zo,zv,za,zn,zc,rfl,rfl,rfl⟩:=hx.parts;clear ga gj hx;go_upto_region 12 with fail;obtain⟨wz,gm⟩:=Ex (wy.alloc (.cells #[Iv zo,Iv zv,.slice za zn zc] 79));have go:Bw wy wz:=by rw[gm];exact Af _ _
        have g0:wz.heap[wy.heap.size]?=some (.cells #[Iv zo,Iv zv,.slice za zn zc] 79 (0,0)):=by rw[gm];exact Vq _ _
        have k0:wz.cell? (Av wy.heap.size)=some (Iv zo):=by rw[Vp _ _ 0 _ _ _ g0];rfl
        have k1:wz.cell? (Aw wy.heap.size 1)=some (Iv zv):=by rw[Vp _ _ 1 _ _ _ g0];rfl
        have k2:wz.cell? (Aw wy.heap.size 2)=some (.slice za zn zc):=by rw[Vp _ _ 2 _ _ _ g0];rfl
        have kd:=Cq go gv;have gx:=Hd (HX.o.below go);have gJ:=Hd (gK.o.trans (go.mono gK.o.size));rw[<- gm];clear gm go g0 c0 c1 c2 gv;go_wp2_with fail;refine(KQ e _ 40 _ (by omega) gx.o).mono ?_;rintro y wp ⟨⟨r,rfl,_,_,gD⟩,gd⟩;have gA:=Hd (gJ.o.trans (gd.mono gJ.o.size));have gy:=Hd (gx.o.below gd);have m0:=Cq gd k0;have m1:=Cq gd k1;have m2:=Cq gd k2;have md:=Cq gd kd;clear gd k0 k1 k2 kd
        by_cases hr:(r:Int)>40
        . have HF:=Hd (gl.o _ gA.o);go_wp2_with fail;exact HF.o
        have gC:e.size<=40:=by have:=gD (by omega);omega
        clear gD;go_wp2_with fail;refine(I5 e _ _ (by omega) gy.o).mono ?_;rintro y wq ⟨err,rfl,gu,gc⟩;have gz:=Hd (gA.o.trans (gc.mono gA.o.size));have gF:=Hd (gy.o.below gc);have n0:=Cq gc m0;have n1:=Cq gc m1;have n2:=Cq gc m2;have nd:=Cq gc md;have gX:=Hd gu;clear gc m0 m1 m2 md gu
        by_cases gn:err=0
        ·have gg:=Hd (gX.o.1 gn);subst gn;go_wp2_with fail;refine(Q4 e _ _ (by omega) gF.o).mono ?_;rintro y ws ⟨u,os,rfl,gO,h8,gr,gw⟩;obtain⟨au,cu,rfl,gE,hf⟩:=gO;have gL:=Hd (gz.o.trans (gw.mono gz.o.size));have pd:=Cq gw nd;have gV:=Hd gE;have gN:=Hd (gr gg.o);clear gw n0 n1 n2 nd gE gr HX gx gy gF;go_wp2_with fail
         go_loopw [8,80] (fun s8 s80 wt=>∃ i:Nat,i<=os.length/\s80=Iv i/\wt=ws/\Hq (∀ v∈os.take i,v<vars)) (fun _ s80 _=>os.length-(intOf s80).toNat)
         case atStart=>exact⟨0,Vu _,rfl,rfl,Hd fun v hv=>by simp at hv⟩
         case round =>
          obtain⟨i,hi,rfl,rfl,gG⟩:=hrel
          by_cases gt:i<os.length
          ·obtain⟨b2,of2,rfl,cc⟩:=gV.o.cells i gt;have gR:(i:Int)<os.length:=by omega
           have gH:=Hd (KW gt);obtain⟨z,hz⟩:=Ex (at0 os i);rw[<- hz] at cc gH;clear hz
           by_cases h9:z>=vars
           . have HF:=Hd (gl.o _ gL.o);go_wp2_with fail;exact HF.o
           ·have gT:Hq (∀ v∈os.take (i+1),v<vars):=Hd fun v hv=>by
             rcases(gH.o v).1 hv with h|rfl
             . exact gG.o v h
             . omega
            go_wp2_with fail;go_roundw
            case rel=>exact⟨i+1,by omega,by go_num,by simp,gT⟩
            case measure=>simp[intOf];omega
          ·have gR:¬ (i:Int)<os.length:=by omega
           have HB2:Hq (∀ e∈es.take (j+1),e.size<=40/\okT e 1/\∀ v∈AI e,v<vars):=Hd fun e' he'=>by
            rcases gk.o e' he' with h|rfl
            . exact HB.o e' h
            . exact⟨gC,gg.o,fun v hv=>gG.o v (by rw[WA (by omega)];exact gN.o v hv)⟩
           go_wp2_with fail;go_roundw
           case rel=>exact⟨j+1,by omega,by go_num,gL.o,HB2⟩
           case measure=>simp[intOf];omega
        ·have hg:(err != 0)=true:=by simpa using gn
         have HF:=Hd (gl.o _ gz.o);clear gn;go_wp2_with fail;exact HF.o
       ·have gQ:¬ (j:Int)<es.length:=by omega
        have HF:=Hd (gM.o ⟨g1,g2,g3,g4,gZ.o,gY.o,h0.o,fun e he=>HB.o e (by rw[WA (by omega)];exact he)⟩ _ gj);go_wp2_with fail;exact HF.o
end Go.Proofs.YtkidaindpahefaaGreat
