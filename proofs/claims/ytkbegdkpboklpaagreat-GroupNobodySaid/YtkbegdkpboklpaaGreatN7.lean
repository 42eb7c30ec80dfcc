/- Several texts in one file: contracts of the program's functions and what follows from them. -/
import Derived.Test.YtkbegdkpboklpaaGreatN6
import Derived.Deep.CutBlock
import Derived.Defers
set_option linter.unusedSimpArgs false
set_option linter.unusedVariables false
set_option linter.unusedSectionVars false
set_option linter.unnecessarySimpa false
set_option maxRecDepth 100000
set_option maxHeartbeats 8000000
namespace Go.Proofs.YtkbegdkpboklpaaGreat
open Go.Proofs.Tryz
open Go.RowKit
section
variable {K:Law}{n:Nat}{Od:List Nat->Prop}{room:Nat}{w0 w w' w'':World}{mb:Nat}{fs fs':List (Int×BF)}{nx nx':Int}{o o':Own}{m m':ManD}{V V':Nat->BF}
theorem Zu4 {w1:World}{op v:Int}{nk:Nat}{kid:Nat->ExT}{a:Option Addr}{c:Nat}{E:ExT}{Q:Ending->World->Prop}{M:Nat}(hctx:BCtx K n Od room w0 mb fs nx M w w1 o m V op v nk kid a c E Q)(h1:op=8\/op=9)(hnk:nk=2)(hF:fnT E=Zpf op (fnT (kid 0)) (fnT (kid 1))) :
 Calls prog 44 #[.pointer (some ⟨mb,0,none⟩),.agg #[.int .i64 op,.int .i64 v,.slice a nk c]] w Q:=by
 obtain⟨HKK,H5,HKS,HSZ,HPOS,IH,HW1,HG1,HSAT1,HWT,HB2,HQ,HMR,HCK,HCI,HEP,HME,hn64,hnx,hE1,hs1,d0,d1,d2,on,hw0,hp2,h2,h3⟩:=hctx;have g1:(op == 1)=false:=by simp;omega
 have g2:(op == 2)=false:=by simp;omega
 have g3:(op == 3)=false:=by simp;omega
 have g5:(op == 5)=false:=by simp;omega
 have g6:(op == 6)=false:=by simp;omega
 have g7:(op == 7)=false:=by simp;omega
 have g4:(op == 4)=false:=by simp;omega
 have g10:(op == 10)=false:=by simp;omega
 have gC:=Hd hnk;have H1:=Hd h1;clear h1 hnk;obtain⟨w2,gf⟩:∃ w2,w2=w1.alloc (.cells #[] 3):=⟨_,rfl⟩;have gB:Hid (_=w2):=Hd gf.symm;have gc:Below w1.heap.size w1 w2:=by rw[gf];exact Zad _ _
 have gn:Hid (BuiS K n Od room w0 mb (fs++[]) nx (M+Ze7 n kid 0) o w1 (.slice (some ⟨w.heap.size+1,0,none⟩) 0 0) (([]:List (Int×BF)).map Prod.fst) w2):=Hd ⟨o,m,V,by rw[List.append_nil];exact HSAT1.out.below gc,HWT.out,Zdb gc o,by rw[gf,<- hs1];exact Zen _ _ _ (Nat.le_refl _),fun k hk=>by cases hk;rw[<- hs1];exact HSAT1.out.lt.none (Nat.le_refl _)⟩;have gp:=Hd gc;clear gf gc
 go_enter func44,ntmps44
 go_upto_region 1 with fail;rw[HW1.out];go_upto_region 23 with fail;rw[gB.out];have e2:=(gp.out.cell (p:=⟨w.heap.size,2,none⟩) (Zaa d2)).trans d2;go_wp2_with fail
 go_loopw [15,106] (fun s15 s106 wr=>∃ (i:Nat) (hs:List (Int×BF)) (nxi:Int),i<=nk/\s106=.int .i64 i/\hs.length=i/\nxi+2*i<=nx+3*((sumN i fun i=>(kid i).size:Nat):Int)/\Hid (∀ j (hj:j<hs.length),hs[j].2=fnT (kid j))/\Hid (BuiS K n Od room w0 mb (fs++hs) nxi (M+Ze7 n kid i) o w1 s15 (hs.map Prod.fst) wr)) (fun _ s106 _=>nk-(intOf s106).toNat)
 case atStart=>exact⟨0,[],nx,Nat.zero_le _,rfl,rfl,by show nx+2*((0:Nat):Int)<=nx+3*((0:Nat):Int);omega,Hd (fun j hj=>by simp at hj),gn⟩
 case round =>
  clear gn gp e2
  rename World=>wy
  obtain⟨i,hs,nxi,hi,rfl,gz,gH,gl,g9⟩:=hrel
  by_cases gi:i<nk
  .
   obtain⟨b,off,x0,x1,x2,rfl,c0,c1,c2,hx⟩:=H5.out i gi;have gj:=g9.out.goes.below0;have q0:=(gj.cell (p:=⟨b,off+i*3,none⟩) (Zaa c0)).trans c0;have q1:=(gj.cell (p:=⟨b,off+i*3+1,none⟩) (Zaa c1)).trans c1;have q2:=(gj.cell (p:=⟨b,off+i*3+2,none⟩) (Zaa c2)).trans c2;obtain⟨zo,zv,za,zn,zc,rfl,rfl,rfl⟩:=hx.parts;have gy:(i:Int)<nk:=by omega
   have gJ:=HKS.out i gi;obtain⟨wz,ge⟩:∃ wz,wz=wy.alloc (.cells #[.int .i64 zo,.int .i64 zv,.slice za zn zc] 81):=⟨_,rfl⟩;have gA:Hid (_=wz):=Hd ge.symm;have gt:Below wy.heap.size wy wz:=by rw[ge];exact Zad _ _
   have ga:wz.heap[wy.heap.size]?=some (.cells #[.int .i64 zo,.int .i64 zv,.slice za zn zc] 81 (0,0)):=by rw[ge];exact heap_alloc_new _ _
   have p0:wz.cell? ⟨wy.heap.size,0,none⟩=some (.int .i64 zo):=by rw[cell_of_row _ _ 0 _ _ _ ga];rfl
   have p1:wz.cell? ⟨wy.heap.size,1,none⟩=some (.int .i64 zv):=by rw[cell_of_row _ _ 1 _ _ _ ga];rfl
   have p2:wz.cell? ⟨wy.heap.size,2,none⟩=some (.slice za zn zc):=by rw[cell_of_row _ _ 2 _ _ _ ga];rfl
   obtain⟨o1,m1,V1,bt⟩:=g9.out.below gt;have gG:=HPOS.out i;have gk:=Hd (IH.out i _ (fs++hs) nxi wz o1 m1 V1 _ gi bt.sat bt.waits (HB2.out.app _) hx (by omega) (by have:=HMR.out i gi;have:=HCK.out i;omega));have g8:=Hd bt;clear gj c0 c1 c2 hx bt ge gt ga g9;go_upto_region 26 with fail;rw[gA.out];clear q0 q1 q2;go_wp2_with fail;refine gk.out.mono ?_;rintro y w3 ⟨k2,rfl,gK,gg⟩;have gm:=Hd (g8.out.go (M':=M+Ze7 n kid (i+1)) (gg.more (Nat.le_of_eq (Nat.add_assoc _ _ _))));have gE:Hid (∀ j (hj:j<(hs++[(k2,fnT (kid i))]).length),(hs++[(k2,fnT (kid i))])[j].2=fnT (kid j)):=Hd fun j hj=>by
    rcases Nat.lt_or_ge j hs.length with h|h
    . rw[List.getElem_append_left h];exact gl.out j h
    .
     have gx:j=i:=by simp at hj;omega
     subst gx;rw[List.getElem_append_right (by omega)];simp
   clear gg gk g8 p0 p1 p2;obtain⟨o3,m3,V3,bt3⟩:=gm.out;have gv:w1.heap.size<=w3.heap.size:=bt3.chg.size;have gd:=Hd bt3;clear bt3;go_upto_region 30 with (at_builtin;refine Zby Zm9 _ rfl _ _ rfl w1.heap.size _ (Zbh (hs.map Prod.fst)) _ rfl rfl rfl rfl rfl (by exact gd.out.l.own) (by simp[Zbh];omega) gv ?_;intro v5 w5 gh r1 r2 r3 r4 gq)
   have gw:Hid (BuiS K n Od room w0 mb (fs++(hs++[(k2,fnT (kid i))])) (k2+1) (M+Ze7 n kid (i+1)) o w1 v5 ((hs++[(k2,fnT (kid i))]).map Prod.fst) w5):=Hd (by
    have:=BuiS.app gd.out gh r1 r2 r3 r4 gq hw0;rw[List.append_assoc] at this;rw[List.map_append];exact this)
   clear gh r1 r2 r3 r4 gq gd gm;go_wp2_with fail;go_roundw
   case rel=>exact⟨i+1,hs++[(k2,fnT (kid i))],k2+1,by omega,by go_num,by simp;omega,by
    show k2+1+2*((i+1:Nat):Int)<=nx+3*(((sumN i fun i=>(kid i).size)+(kid i).size:Nat):Int)
    omega,gE,gw⟩
   case measure=>simp[intOf];omega
  .
   obtain rfl:i=nk:=by omega
   have gy:¬ (i:Int)<i:=by omega
   have f0:=g9.out.goes.cell (p:=⟨w.heap.size,0,none⟩) d0 on;have gu:=HSZ.out;have gF:nxi+2*i+3<=nx+3*E.size:=by omega
   have hnk:=gC.out;have gI:1<=i:=by omega
   clear gu H5 IH HSZ HKS HPOS;obtain⟨o1,m1,V1,bt⟩:=g9.out;have g8:=Hd bt;clear bt;subst hnk;obtain⟨⟨k0,F0⟩,⟨k1',F1⟩,rfl⟩:=Yar gz;obtain⟨g,cp,rfl,g0⟩:=g9.out.cellsN (i:=2) rfl (by omega);have c0:wy.cell? ⟨g,0,none⟩=some (.int .i64 k0):=g0 0 (by omega);have c1:wy.cell? ⟨g,1,none⟩=some (.int .i64 k1'):=g0 1 (by omega);have HF:Hid (Zpf op F0 F1=fnT E):=Hd (by rw[hF,<- gl.out 0 (by simp),<- gl.out 1 (by simp)];rfl);have HJ:Hid (∀ W,W=wy.drew->Calls prog 106 #[.pointer (some ⟨mb,0,none⟩),.int .i64 op,.int .i64 k0,.int .i64 k1'] W fun x w''=>∃ k:Int,x=.returned (.tuple #[.int .i64 k,.bool true])/\k<=nxi+1/\Goes K n Od room w0 mb (fs++[(k,Zpf op F0 F1)]) (k+1) (NoW (M+Ze7 n kid 2+(2^n-1))) o1 wy w'') :=
    Hd fun W hW=>by subst hW;exact Zr4 HKK.out (g8.out.refl.below (Zaf wy 1)) HB2.out (by omega) (by have:=HEP.out;have:=HCK.out 2;have:=HME.out;omega) (by have:=H1.out;omega) (by have:=H1.out;omega)
   clear g0;go_upto_region 39 with fail;refine Zam (fun W:World=>W.cell? ⟨w.heap.size,0,none⟩=some (.int .i64 op)/\W.cell? ⟨g,0,none⟩=some (.int .i64 k0)/\W.cell? ⟨g,1,none⟩=some (.int .i64 k1')) false 14
    [(0,false),(1,false),(2,false),(3,false),(4,false),(5,false),(6,false),(7,false),(8,false),(9,true),(10,false),(11,false),(12,false),(13,false)] (by kernel_rfl) (by kernel_rfl) ⟨f0,c0,c1⟩ ?_
   simp only[planned,Zcc]
   iterate 9
    refine Zaj rfl ?_;apply Exists.intro;refine⟨fun w' hw=>?_,?_⟩
    . obtain⟨h1,h2,h3⟩:=hw;go_simp;rfl
    simp only[Zae]
   refine Zb6 (R:=fun v w'=>∃ k:Int,v=.tuple #[.int .i64 k,.bool true]/\k<=nxi+1/\Goes K n Od room w0 mb (fs++[(k,Zpf op F0 F1)]) (k+1) (NoW (M+Ze7 n kid 2+(2^n-1))) o1 wy w') rfl (by go_simp) ((HJ.out _ rfl).mono (fun e w' he=>?_)) ?_
   . obtain⟨k,rfl,q1,q2⟩:=he;have hb:=g8.out.go q2;obtain⟨g',cp',ev,gr⟩:=hb.cellsN (i:=2) rfl (by omega);cases ev;exact⟨_,rfl,⟨hb.goes.cell (p:=⟨w.heap.size,0,none⟩) d0 on,gr 0 (by omega),gr 1 (by omega)⟩,k,rfl,q1,q2⟩
   rintro v w3-⟨k,rfl,q1,q2⟩;have gD:=Hd (HQ.out k _ w3 _ HF.out (by omega) (by have:=HEP.out;have:=HCK.out 2;omega) (g8.out.go q2).goes);clear q2 HJ;simp only[Zae]
   iterate 4
    refine Zaj rfl ?_;apply Exists.intro;refine⟨fun w' hw=>?_,?_⟩
    . obtain⟨h1,h2,h3⟩:=hw;go_simp;rfl
    simp only[Zae]
   refine Zb8 ?_;go_wp2_with fail;exact gD.out
end
open Go.RowKit
section
variable {K:Law}{n:Nat}{Od:List Nat->Prop}{room:Nat}{w0 w w' w'':World}{mb:Nat}{fs fs':List (Int×BF)}{nx nx':Int}{o o':Own}{m m':ManD}{V V':Nat->BF}
theorem Zu2 {w1:World}{op v:Int}{nk:Nat}{kid:Nat->ExT}{a:Option Addr}{c:Nat}{E:ExT}{Q:Ending->World->Prop}{M:Nat}(hctx:BCtx K n Od room w0 mb fs nx M w w1 o m V op v nk kid a c E Q)(h1:op=10)(hnk:nk=3)(hF:fnT E=Zfl (fnT (kid 0)) (fnT (kid 1)) (fnT (kid 2))) :
 Calls prog 44 #[.pointer (some ⟨mb,0,none⟩),.agg #[.int .i64 op,.int .i64 v,.slice a nk c]] w Q:=by
 obtain⟨HKK,H5,HKS,HSZ,HPOS,IH,HW1,HG1,HSAT1,HWT,HB2,HQ,HMR,HCK,HCI,HEP,HME,hn64,hnx,hE1,hs1,d0,d1,d2,on,hw0,hp2,h2,h3⟩:=hctx;have g1:(op == 1)=false:=by simp;omega
 have g2:(op == 2)=false:=by simp;omega
 have g3:(op == 3)=false:=by simp;omega
 have g5:(op == 5)=false:=by simp;omega
 have g6:(op == 6)=false:=by simp;omega
 have g7:(op == 7)=false:=by simp;omega
 have g4:(op == 4)=false:=by simp;omega
 have g10:(op == 10)=true:=by simp;omega
 have gE:=Hd hnk;clear h1 hnk;obtain⟨w2,gh⟩:∃ w2,w2=w1.alloc (.cells #[] 3):=⟨_,rfl⟩;have gD:Hid (_=w2):=Hd gh.symm;have ge:Below w1.heap.size w1 w2:=by rw[gh];exact Zad _ _
 have gq:Hid (BuiS K n Od room w0 mb (fs++[]) nx (M+Ze7 n kid 0) o w1 (.slice (some ⟨w.heap.size+1,0,none⟩) 0 0) (([]:List (Int×BF)).map Prod.fst) w2):=Hd ⟨o,m,V,by rw[List.append_nil];exact HSAT1.out.below ge,HWT.out,Zdb ge o,by rw[gh,<- hs1];exact Zen _ _ _ (Nat.le_refl _),fun k hk=>by cases hk;rw[<- hs1];exact HSAT1.out.lt.none (Nat.le_refl _)⟩;have gr:=Hd ge;clear gh ge
 go_enter func44,ntmps44
 go_upto_region 1 with fail;rw[HW1.out];go_upto_region 23 with fail;rw[gD.out];have e2:=(gr.out.cell (p:=⟨w.heap.size,2,none⟩) (Zaa d2)).trans d2;go_wp2_with fail
 go_loopw [15,106] (fun s15 s106 wr=>∃ (i:Nat) (hs:List (Int×BF)) (nxi:Int),i<=nk/\s106=.int .i64 i/\hs.length=i/\nxi+2*i<=nx+3*((sumN i fun i=>(kid i).size:Nat):Int)/\Hid (∀ j (hj:j<hs.length),hs[j].2=fnT (kid j))/\Hid (BuiS K n Od room w0 mb (fs++hs) nxi (M+Ze7 n kid i) o w1 s15 (hs.map Prod.fst) wr)) (fun _ s106 _=>nk-(intOf s106).toNat)
 case atStart=>exact⟨0,[],nx,Nat.zero_le _,rfl,rfl,by show nx+2*((0:Nat):Int)<=nx+3*((0:Nat):Int);omega,Hd (fun j hj=>by simp at hj),gq⟩
 case round =>
  clear gq gr e2
  rename World=>wy
  obtain⟨i,hs,nxi,hi,rfl,gA,gJ,gl,ga⟩:=hrel
  by_cases gj:i<nk
  .
   obtain⟨b,off,x0,x1,x2,rfl,c0,c1,c2,hx⟩:=H5.out i gj;have gk:=ga.out.goes.below0;have q0:=(gk.cell (p:=⟨b,off+i*3,none⟩) (Zaa c0)).trans c0;have q1:=(gk.cell (p:=⟨b,off+i*3+1,none⟩) (Zaa c1)).trans c1;have q2:=(gk.cell (p:=⟨b,off+i*3+2,none⟩) (Zaa c2)).trans c2;obtain⟨zo,zv,za,zn,zc,rfl,rfl,rfl⟩:=hx.parts;have gz:(i:Int)<nk:=by omega
   have gL:=HKS.out i gj;obtain⟨wz,gf⟩:∃ wz,wz=wy.alloc (.cells #[.int .i64 zo,.int .i64 zv,.slice za zn zc] 81):=⟨_,rfl⟩;have gC:Hid (_=wz):=Hd gf.symm;have gu:Below wy.heap.size wy wz:=by rw[gf];exact Zad _ _
   have gd:wz.heap[wy.heap.size]?=some (.cells #[.int .i64 zo,.int .i64 zv,.slice za zn zc] 81 (0,0)):=by rw[gf];exact heap_alloc_new _ _
   have p0:wz.cell? ⟨wy.heap.size,0,none⟩=some (.int .i64 zo):=by rw[cell_of_row _ _ 0 _ _ _ gd];rfl
   have p1:wz.cell? ⟨wy.heap.size,1,none⟩=some (.int .i64 zv):=by rw[cell_of_row _ _ 1 _ _ _ gd];rfl
   have p2:wz.cell? ⟨wy.heap.size,2,none⟩=some (.slice za zn zc):=by rw[cell_of_row _ _ 2 _ _ _ gd];rfl
   obtain⟨o1,m1,V1,bt⟩:=ga.out.below gu;have gI:=HPOS.out i;have gm:=Hd (IH.out i _ (fs++hs) nxi wz o1 m1 V1 _ gj bt.sat bt.waits (HB2.out.app _) hx (by omega) (by have:=HMR.out i gj;have:=HCK.out i;omega));have gc:=Hd bt;clear gk c0 c1 c2 hx bt gf gu gd ga;go_upto_region 26 with fail;rw[gC.out];clear q0 q1 q2;go_wp2_with fail;refine gm.out.mono ?_;rintro y w3 ⟨k2,rfl,gM,gg⟩;have gp:=Hd (gc.out.go (M':=M+Ze7 n kid (i+1)) (gg.more (Nat.le_of_eq (Nat.add_assoc _ _ _))));have gG:Hid (∀ j (hj:j<(hs++[(k2,fnT (kid i))]).length),(hs++[(k2,fnT (kid i))])[j].2=fnT (kid j)):=Hd fun j hj=>by
    rcases Nat.lt_or_ge j hs.length with h|h
    . rw[List.getElem_append_left h];exact gl.out j h
    .
     have gy:j=i:=by simp at hj;omega
     subst gy;rw[List.getElem_append_right (by omega)];simp
   clear gg gm gc p0 p1 p2;obtain⟨o3,m3,V3,bt3⟩:=gp.out;have gw:w1.heap.size<=w3.heap.size:=bt3.chg.size;have g0:=Hd bt3;clear bt3;go_upto_region 30 with (at_builtin;refine Zby Zm9 _ rfl _ _ rfl w1.heap.size _ (Zbh (hs.map Prod.fst)) _ rfl rfl rfl rfl rfl (by exact g0.out.l.own) (by simp[Zbh];omega) gw ?_;intro v5 w5 gi r1 r2 r3 r4 gt)
   have gx:Hid (BuiS K n Od room w0 mb (fs++(hs++[(k2,fnT (kid i))])) (k2+1) (M+Ze7 n kid (i+1)) o w1 v5 ((hs++[(k2,fnT (kid i))]).map Prod.fst) w5):=Hd (by
    have:=BuiS.app g0.out gi r1 r2 r3 r4 gt hw0;rw[List.append_assoc] at this;rw[List.map_append];exact this)
   clear gi r1 r2 r3 r4 gt g0 gp;go_wp2_with fail;go_roundw
   case rel=>exact⟨i+1,hs++[(k2,fnT (kid i))],k2+1,by omega,by go_num,by simp;omega,by
    show k2+1+2*((i+1:Nat):Int)<=nx+3*(((sumN i fun i=>(kid i).size)+(kid i).size:Nat):Int)
    omega,gG,gx⟩
   case measure=>simp[intOf];omega
  .
   obtain rfl:i=nk:=by omega
   have gz:¬ (i:Int)<i:=by omega
   have f0:=ga.out.goes.cell (p:=⟨w.heap.size,0,none⟩) d0 on;have gv:=HSZ.out;have gH:nxi+2*i+3<=nx+3*E.size:=by omega
   have hnk:=gE.out;have gK:1<=i:=by omega
   clear gv H5 IH HSZ HKS HPOS;obtain⟨o1,m1,V1,bt⟩:=ga.out;have gc:=Hd bt;clear bt;subst hnk;obtain⟨⟨k0,F0⟩,⟨k1',F1⟩,⟨k2',F2⟩,rfl⟩:=Zv4 gA;obtain⟨g,cp,rfl,g8⟩:=ga.out.cellsN (i:=3) rfl (by omega);have c0:wy.cell? ⟨g,0,none⟩=some (.int .i64 k0):=g8 0 (by omega);have c1:wy.cell? ⟨g,1,none⟩=some (.int .i64 k1'):=g8 1 (by omega);have c2:wy.cell? ⟨g,2,none⟩=some (.int .i64 k2'):=g8 2 (by omega);have HF:Hid (Zfl F0 F1 F2=fnT E):=Hd (by rw[hF,<- gl.out 0 (by simp),<- gl.out 1 (by simp),<- gl.out 2 (by simp)];rfl);have HI:Hid (∀ W,W=wy.drew->Calls prog 83 #[.pointer (some ⟨mb,0,none⟩),.int .i64 k0,.int .i64 k1',.int .i64 k2'] W fun x w''=>x=.returned (.tuple #[.int .i64 nxi,.int .i64 0])/\Goes K n Od room w0 mb (fs++[(k0,F0),(k1',F1),(k2',F2)]++[(nxi,Zfl F0 F1 F2)]) (nxi+1) (NoW (M+Ze7 n kid 3+(2^n-1))) o1 wy w'') :=
    Hd fun W hW=>by subst hW;exact Zvw HKK.out (gc.out.refl.below (Zaf wy 1)) (by omega) (by have:=HEP.out;have:=HCK.out 3;have:=HME.out;omega) (by simp) (by simp) (by simp)
   clear g8;go_upto_region 36 with fail;refine Zam (fun W:World=>W.cell? ⟨g,0,none⟩=some (.int .i64 k0)/\W.cell? ⟨g,1,none⟩=some (.int .i64 k1')/\W.cell? ⟨g,2,none⟩=some (.int .i64 k2')) false 16
    [(0,false),(1,false),(2,false),(3,false),(4,false),(5,false),(6,false),(7,false),(8,false),(9,false),(10,true),(11,false),(12,false),(13,false),(14,false),(15,false)] (by kernel_rfl) (by kernel_rfl) ⟨c0,c1,c2⟩ ?_
   simp only[planned,Zcc]
   iterate 10
    refine Zaj rfl ?_;apply Exists.intro;refine⟨fun w' hw=>?_,?_⟩
    . obtain⟨h1,h2,h3⟩:=hw;go_simp;rfl
    simp only[Zae]
   refine Zb6 (R:=fun v w'=>v=.tuple #[.int .i64 nxi,.int .i64 0]/\Goes K n Od room w0 mb (fs++[(k0,F0),(k1',F1),(k2',F2)]++[(nxi,Zfl F0 F1 F2)]) (nxi+1) (NoW (M+Ze7 n kid 3+(2^n-1))) o1 wy w') rfl (by go_simp) ((HI.out _ rfl).mono (fun e w' he=>?_)) ?_
   . obtain⟨rfl,q2⟩:=he;have hb:=gc.out.go q2;obtain⟨g',cp',ev,g9⟩:=hb.cellsN (i:=3) rfl (by omega);cases ev;exact⟨_,rfl,⟨g9 0 (by omega),g9 1 (by omega),g9 2 (by omega)⟩,rfl,q2⟩
   rintro v w3 ⟨d0',d1',d2'⟩ ⟨rfl,q2⟩;obtain⟨o3,m3,V3,bt3⟩:=gc.out.go q2;have g0:=Hd bt3;clear q2 HI bt3 c0 c1 c2 ga;simp only[Zae]
   iterate 5
    refine Zaj rfl ?_;apply Exists.intro;refine⟨fun w' hw=>?_,?_⟩
    . obtain⟨h1,h2,h3⟩:=hw;go_simp;rfl
    simp only[Zae]
   refine Zb8 ?_;have HD:Hid (∀ W T,Below w3.heap.size w3 W->T=W.alloc (.cells #[.int .i64 k0,.int .i64 k1',.int .i64 k2'] 3)->Calls prog 87 #[.pointer (some ⟨mb,0,none⟩),.slice (some ⟨W.heap.size,0,none⟩) 3 3] T fun x w''=>x=.returned (.int .i64 0)/\Goes K n Od room w0 mb (fs++[(nxi,Zfl F0 F1 F2)]) (nxi+1) (NoW (M+Ze7 n kid 3+(2^n-1))) o3 w3 w'') :=
    Hd fun W T hW hT=>Zm8 HKK.out (hs:=[(k0,F0),(k1',F1),(k2',F2)]) (r:=[(nxi,Zfl F0 F1 F2)]) (by have:=g0.out.refl;rw[List.append_assoc] at this;exact this.below hW) HB2.out (by omega) (by simp) hT
   go_upto_region 37 with fail;refine Zam (fun W:World=>W.cell? ⟨g,0,none⟩=some (.int .i64 k0)/\W.cell? ⟨g,1,none⟩=some (.int .i64 k1')/\W.cell? ⟨g,2,none⟩=some (.int .i64 k2')) false 20
    [(0,false),(1,false),(2,false),(3,false),(4,false),(5,false),(6,false),(7,false),(8,false),(9,false),(10,false),(11,false),(12,false),(13,false),(14,true),(15,true),(16,false),(17,false),(18,false),(19,false)] (by kernel_rfl) (by kernel_rfl) ⟨d0',d1',d2'⟩ ?_
   simp only[planned,Zcc]
   iterate 4
    refine Zaj rfl ?_;apply Exists.intro;refine⟨fun w' hw=>?_,?_⟩
    . obtain⟨h1,h2,h3⟩:=hw;go_simp;rfl
    simp only[Zae]
   iterate 10
    refine Zb2 true (by go_simp) ?_;apply Exists.intro;refine⟨fun gB w' hw=>?_,?_⟩
    . obtain⟨h1,h2,h3⟩:=hw;go_simp;rfl
    simp only[Zae]
   have gn:=Zad w3.drew (.cells #[.int .i64 k0,.int .i64 k1',.int .i64 k2'] 3);refine Ztz (v:=.slice (some ⟨w3.heap.size,0,none⟩) 3 3) (w':=w3.drew.alloc (.cells #[.int .i64 k0,.int .i64 k1',.int .i64 k2'] 3)) (by go_simp) (by go_simp) ⟨(gn.cell (p:=⟨g,0,none⟩) (Zaa (w:=w3.drew) d0')).trans d0',(gn.cell (p:=⟨g,1,none⟩) (Zaa (w:=w3.drew) d1')).trans d1',(gn.cell (p:=⟨g,2,none⟩) (Zaa (w:=w3.drew) d2')).trans d2'⟩ ?_;simp only[Zae];refine Zty (R:=fun v w'=>v=.int .i64 0/\Goes K n Od room w0 mb (fs++[(nxi,Zfl F0 F1 F2)]) (nxi+1) (NoW (M+Ze7 n kid 3+(2^n-1))) o3 w3 w') (by go_simp) (by go_simp) ((HD.out w3.drew _ (Zaf w3 1) rfl).mono (fun e w' he=>?_)) ?_
   . obtain⟨rfl,q2⟩:=he;have hb:=g0.out.go q2;obtain⟨g',cp',ev,g9⟩:=hb.cellsN (i:=3) rfl (by omega);cases ev;exact⟨_,rfl,⟨g9 0 (by omega),g9 1 (by omega),g9 2 (by omega)⟩,rfl,q2⟩
   rintro v w4-⟨rfl,q2⟩;have gF:=Hd (HQ.out nxi _ w4 _ HF.out (by omega) (by have:=HEP.out;have:=HCK.out 3;omega) (g0.out.go q2).goes);clear q2 HD;simp only[Zae]
   iterate 1
    refine Zb2 true (by go_simp) ?_;apply Exists.intro;refine⟨fun gB w' hw=>?_,?_⟩
    . obtain⟨h1,h2,h3⟩:=hw;go_simp;rfl
    simp only[Zae]
   iterate 3
    refine Zaj rfl ?_;apply Exists.intro;refine⟨fun w' hw=>?_,?_⟩
    . obtain⟨h1,h2,h3⟩:=hw;go_simp;rfl
    simp only[Zae]
   refine Zb8 ?_;go_wp2_with fail;exact gF.out
end
open Go.RowKit
section
variable {K:Law}{n:Nat}{Od:List Nat->Prop}{room:Nat}{w0:World}{mb:Nat}
theorem Zom (hK:Zec K):∀ (e:ExT) (x:Value) (fs:List (Int×BF)) (nx:Int) (w:World) (o:Own) (m:ManD) (V:Nat->BF) (M:Nat),SatE K n Od room w0 mb fs nx w o m V->m.waits=[]/\m.d.pool.many<=M->B2 fs->Zsp e->(∀ v∈Zc4 e,v<(n:Int))->Zbe w0 e x->nx+3*e.size<549755813000->M+e.size*2^n<=room ->
 Calls prog 44 #[.pointer (some ⟨mb,0,none⟩),x] w fun y w'=>∃ k:Int,y=.returned (.tuple #[.int .i64 k,.bool true])/\k+3<=nx+3*e.size/\Goes K n Od room w0 mb (fs++[(k,fnT e)]) (k+1) (NoW (M+Zh4 n e.size)) o w w'
 | .nil,x,fs,nx,w,o,m,V,M,_,_,_,hv,_,_,_,_=>hv.elim
 | .mk op v nk kid,x,fs,nx,w,o,m,V,M,hsat,hwt,hb2,hval,hvars,h,hnx,hroom=>by
   unfold Zbe at h;obtain⟨a,c,rfl,h2,h3,h4,h5⟩:=h;obtain⟨v1,v2,v3,v4,v5,v6⟩:=hval;obtain⟨k1,k2,k3⟩:=Zv0 v1;have hblk:(w.alloc (.cells #[.int .i64 op,.int .i64 v,.slice a nk c] 81)).heap[w.heap.size]?=some (.cells #[.int .i64 op,.int .i64 v,.slice a nk c] 81 (0,0)):=heap_alloc_new _ _;have hb1:=Zad w (.cells #[.int .i64 op,.int .i64 v,.slice a nk c] 81);have hep:(ExT.mk op v nk kid).size*2^n=2^n+(sumN nk fun i=>(kid i).size)*2^n:=by
    show (1+sumN nk fun i=>(kid i).size)*2^n=_
    rw[Nat.add_mul,Nat.one_mul]
   have g0:BCtx K n Od room w0 mb fs nx M w (w.alloc (.cells #[.int .i64 op,.int .i64 v,.slice a nk c] 81)) o m V op v nk kid a c (ExT.mk op v nk kid) (fun y w'=>∃ k:Int,y=.returned (.tuple #[.int .i64 k,.bool true])/\k+3<=nx+3*(ExT.mk op v nk kid).size/\Goes K n Od room w0 mb (fs++[(k,fnT (ExT.mk op v nk kid))]) (k+1) (NoW (M+Zh4 n (ExT.mk op v nk kid).size)) o w w'):=by
    refine⟨Hd hK,Hd h5,Hd fun i hi=>?_,Hd rfl,Hd (Zsk fun i=>(kid i).size_pos),Hd fun i x fs' nx' W o' m' V' M' hi q1 q2 q3 q4 q5 q6=>Zom hK (kid i) x fs' nx' W o' m' V' M' q1 q2 q3 (v6 i hi) (fun u hu=>hvars u (by unfold Zc4;exact List.mem_append_right _ (Zpp hi hu))) q4 q5 q6,Hd rfl,Hd (Goes.refl (hsat.below hb1) hwt),Hd (hsat.below hb1),Hd hwt,Hd hb2,Hd ?_,Hd fun i hi=>?_,Hd (Zop n kid),Hd fun i=>Zij n (kid i).size_pos,Hd ⟨hep,Zij n (ExT.size_pos _)⟩,Hd hroom,by omega,hnx,ExT.size_pos _,by simp,by rw[cell_of_row _ _ 0 _ _ _ hblk];rfl,by rw[cell_of_row _ _ 1 _ _ _ hblk];rfl,by rw[cell_of_row _ _ 2 _ _ _ hblk];rfl,hsat.lt.none (Nat.le_refl _),?_,Nat.pow_pos (by omega),h2,h3⟩
    .
     have:=Zgi (f:=fun i=>(kid i).size) hi
     show _<=1+sumN nk fun i=>(kid i).size
     omega
    . rintro k F W M' rfl hk hm g;exact⟨k,rfl,hk,(g.more hm).after (Zdb hb1 o)⟩
    . have h1:=Zgi (f:=fun i=>(kid i).size) hi;have h2:=Nat.mul_le_mul_right (2^n) h1;rw[Nat.add_mul] at h2;omega
    . have:=hsat.chg.size;simp;omega
   rcases(show op=1\/op=2\/op=3\/(op=5\/op=6\/op=7)\/op=4\/(op=8\/op=9)\/op=10 by omega) with h1|h1|h1|h1|h1|h1|h1
   . exact Zsx g0 h1 (by subst h1;exact Zo3 (.inl rfl) v nk kid)
   . exact Zqw g0 h1 (by subst h1;exact Zo3 (.inr rfl) v nk kid)
   . have e1:=v2 h1;have e2:=hvars v (by unfold Zc4;rw[if_pos h1];simp);obtain⟨u,rfl⟩:∃ u:Nat,v=u:=⟨v.toNat,by omega⟩;exact Zu5 g0 (u:=u) (by omega) h1 rfl (by subst h1;exact Yai u nk kid)
   . exact Zu1 g0 h1 (Yaf h1 v nk kid)
   .
    have e:nk=1:=by subst h1;simp[Ze3] at v4 v5;omega
    exact Zu3 g0 h1 e (by subst h1;subst e;exact Yah v kid)
   .
    have e:nk=2:=by rcases h1 with rfl|rfl<;>(simp[Ze3] at v4 v5;omega)
    exact Zu4 g0 h1 e (by subst e;exact Zxy h1 v kid)
   .
    have e:nk=3:=by subst h1;simp[Ze3] at v4 v5;omega
    exact Zu2 g0 h1 e (by subst h1;subst e;exact Yag v kid)
end
open Go.RowKit
theorem Za4.chgX {C:Nat->Prop}{o o':Own}{w w':World}{a:Option Addr}{zs:List Int}(h:Za4 w a zs)(hc:ChgX C o o' w w')(hn:0<zs.length->∀ x,a=some x->o x.block=none/\¬ C x.block):Za4 w' a zs :=
 ⟨h.len,fun k hk=>by
  obtain⟨b,off,rfl,c⟩:=h.cells k hk;have:=hn (by omega) _ rfl;exact⟨b,off,rfl,hc.cell c this.1 this.2⟩⟩
def ArrI (K:Law)(n room:Nat)(w0:World)(mb:Nat)(fs:List (Int×BF))(nx:Int)(o:Own)(w:World)(m:ManD)(P:List Nat->Prop)(W:World):Prop :=
 ∃ o' m' V',SatE K n P room w0 mb fs nx W o' m' V'/\m'.waits=m.waits/\m'.calls=m.calls/\ChgX NoB o o' w W/\(m'.d.pool.many<=m.d.pool.many\/m'.d.pool.many<=fs.length*2^n)
section
variable {K:Law}{n:Nat}{Od:List Nat->Prop}{room:Nat}{w0 w w':World}{mb:Nat}{fs:List (Int×BF)}{nx:Int}{o o':Own}{m m':ManD}{V V':Nat->BF}{P:List Nat->Prop}{W W':World}
theorem ArrI.below (h:ArrI K n room w0 mb fs nx o w m P W)(hb:Below W.heap.size W W'):ArrI K n room w0 mb fs nx o w m P W':=by
 obtain⟨o',m',V',h1,h2,h3,h4,h5⟩:=h;exact⟨o',m',V',h1.below hb,h2,h3,h4.trans (Zdb hb o') (fun _ _ e=>e),h5⟩
theorem ArrI.imp (h:ArrI K n room w0 mb fs nx o w m P W){P':List Nat->Prop}(hP:∀ l,l.length=n->P l->P' l):ArrI K n room w0 mb fs nx o w m P' W:=by
 obtain⟨o',m',V',h1,h2,h3,h4,h5⟩:=h;exact⟨o',m',V',h1.withOd (hP _ h1.vars h1.od),h2,h3,h4,h5⟩
theorem ArrI.swap (h:ArrI K n room w0 mb fs nx o w m P W){k:Nat}(hk1:k+1<n)(hn:nx<=549755813888)(hr:3*(fs.length*2^n)<=room){P':List Nat->Prop}(hP:∀ l,l.length=n->P l->P' (exL l k)) :
 Calls prog 130 #[.pointer (some ⟨mb,0,none⟩),.int .i64 k] W fun e w'=>e=.returned (.int .i64 0)/\ArrI K n room w0 mb fs nx o w m P' w':=by
 obtain⟨o',m',V',h1,h2,h3,h4,h5⟩:=h;refine(Zmo h1 hk1 hn hr).mono ?_;rintro e w' ⟨rfl,o2,m2,V2,s⟩;refine⟨rfl,o2,m2,V2,s.sat.withOd ?_,s.waits.trans h2,s.calls.trans h3,h4.trans (ChgX.of_chg s.chg NoB) (fun _ _ e=>e),.inr (s.sat.few s.dead)⟩;rw[s.sat.od,Zql];exact hP _ h1.vars h1.od
theorem Zqr (h:SatE K n Od room w0 mb fs nx w o m V)(hn:nx<=549755813888)(hr:3*(fs.length*2^n)<=room){a:Option Addr}{c:Nat}{zs:List Int}(hz:Za4 w a zs)(hno:0<zs.length->∀ x,a=some x->o x.block=none)(hp:zs.length=0\/Zxn zs n) :
 Calls prog 72 #[.pointer (some ⟨mb,0,none⟩),.slice a zs.length c] w fun x w'=>x=.returned (.bool true)/\ArrI K n room w0 mb fs nx o w m (fun l=>∀ j,j<zs.length->((l.getD j 0:Nat):Int)=at0 zs j) w':=by
 have gI:=hz.len;have hn64:n<=64:=by have:=h.ok.store.small;rw[h.vars] at this;exact this
 have HZ:Hid (∀ W P,ArrI K n room w0 mb fs nx o w m P W->Za4 W a zs):=Hd fun W P ⟨o',m',V',_,_,_,h4,_⟩=>hz.chgX h4 fun h0 x hx=>⟨hno h0 x hx,fun e=>e⟩
 have ge:Hid (∀ W P,ArrI K n room w0 mb fs nx o w m P W->Calls prog 25 #[.pointer (some ⟨mb,0,none⟩)] W fun x w'=>∃ (a:Option Addr) (c:Nat) (l:List Nat),x=.returned (.slice a n c)/\l.length=n/\Za4 w' a (l.map Int.ofNat)/\P l/\(∀ v,v<n->∃ i,i<n/\l.getD i 0=v)/\(∀ i j,i<n->j<n->l.getD i 0=l.getD j 0->i=j)/\Below W.heap.size W w'/\ArrI K n room w0 mb fs nx o w m (fun l'=>l'=l) w'):=by
  refine Hd fun W P hA=>?_
  obtain⟨o',m',V',h1,h2,h3,h4,h5⟩:=hA;refine(Zjq h1.is h1.lt (by rw[h1.vars];exact hn64)).mono ?_;rintro x w' ⟨v,rfl,hv,hb⟩;obtain⟨av,cv,rfl,gt,_⟩:=hv.sliceIs (by simp[h1.vars];omega);refine⟨av,cv,m'.d.vars,by rw[List.length_map,h1.vars],h1.vars,gt,h1.od,fun v hv=>?_,fun i j hi hj e=>?_,hb,o',m',V',(h1.below hb).withOd rfl,h2,h3,h4.trans (Zdb hb o') (fun _ _ e=>e),h5⟩
  . have:=h1.ok.store.mem (v:=v) (by rw[h1.vars];exact hv);rw[h1.vars] at this;exact this
  . exact h1.ok.store.inj (by rw[h1.vars];exact hi) (by rw[h1.vars];exact hj) e
 have gj:Hid (∀ W P,ArrI K n room w0 mb fs nx o w m P W->∀ (k:Nat),k+1<n->∀ P':List Nat->Prop,(∀ l,l.length=n->P l->P' (exL l k))->Calls prog 130 #[.pointer (some ⟨mb,0,none⟩),.int .i64 k] W fun e w'=>e=.returned (.int .i64 0)/\ArrI K n room w0 mb fs nx o w m P' w') :=
  Hd fun W P hA k hk P' hP=>hA.swap hk hn hr hP
 have HP:=Hd hp;obtain⟨R,hR⟩:∃ R:(List Nat->Prop)->World->Prop,R=ArrI K n room w0 mb fs nx o w m:=⟨_,rfl⟩;have gE:Hid (R (fun l=>∀ j,j<0->((l.getD j 0:Nat):Int)=at0 zs j) w):=Hd (by rw[hR];exact⟨o,m,V,h.withOd (fun j hj=>by omega),rfl,rfl,ChgX.of_below (Below.refl _ _) o NoB,.inl (Nat.le_refl _)⟩);have gB:Hid (∀ P W W',R P W->Below W.heap.size W W'->R P W'):=Hd (by rw[hR];intro P W W' h1 h2;exact h1.below h2);have gk:Hid (∀ P P' W,R P W->(∀ l,l.length=n->P l->P' l)->R P' W):=Hd (by rw[hR];intro P P' W h1 h2;exact h1.imp h2);rw[<- hR] at HZ ge gj ⊢;clear h hz hno hp hr hn hR
 go_enter func72,ntmps72
 go_wp2_with fail
 go_loopw [5,6,7] (fun s5 s6 s7 wr=>∃ i:Nat,i<=zs.length/\s5=.int .i64 i/\Hid (R (fun l=>∀ j,j<i->((l.getD j 0:Nat):Int)=at0 zs j) wr)) (fun s5 _ _ _=>zs.length-(intOf s5).toNat)
 case atStart=>exact⟨0,Nat.zero_le _,rfl,gE⟩
 case round =>
  obtain⟨i,hi,rfl,HR⟩:=hrel
  by_cases gx:i<zs.length
  .
   have gy:(i:Int)<zs.length:=by omega
   have g3:Zxn zs n:=by
    rcases HP.out with e|e
    . omega
    . exact e
   have gq:zs.length=n:=g3.len;obtain⟨zi,gr,ezi⟩:=g3.lt i (by omega);have gn:=Hd (ge.out wr _ HR.out);have gp:=Hd g3.inj;clear g3;go_wp2_with fail;refine gn.out.mono ?_;rintro x w3 ⟨av,cv,l,rfl,gh,gi,g8,ga,gc,gA,g6⟩;obtain⟨p,gg,g7⟩:=ga zi gr;have gz:i<=p:=by
    rcases Nat.lt_or_ge p i with h|h
    . exfalso;have e1:=g8 p h;rw[g7,<- ezi] at e1;have:=gp.out i p (by omega) gg e1;omega
    . exact h
   have go:=Hd gi;have gF:=Hd g8;have g5:=Hd g7;have gG:=Hd gc;have gm:=Hd g6;have gP:((n:Int) != (zs.length:Int))=false:=by rw[gq];simp
   obtain⟨bz,oz,ea,cz⟩:=(HZ.out w3 _ g6).cells i gx;subst ea;rw[ezi] at cz;have EZI:=Hd ezi;clear gi g8 g7 gc g6 ga gn gA ezi;go_wp2_with fail
   go_loopw [7] (fun s7 wr=>∃ q:Nat,i<=q/\q<=p/\s7=.int .i64 q/\Hid (Below w3.heap.size w3 wr)) (fun s7 _=>p-(intOf s7).toNat)
   case atStart=>exact⟨i,Nat.le_refl _,gz,rfl,Hd (Below.refl _ _)⟩
   case round =>
    rename World=>wq
    obtain⟨q,gw,gO,rfl,g0⟩:=hrel;have gM:(q:Int)<(n:Int):=by omega
    have g4:q<n:=by omega
    obtain⟨bv,ov,rfl,cq⟩:=(go.out.below g0.out).cells q (by rw[List.length_map,gh];exact g4);have cz':=(g0.out.cell (p:=⟨bz,oz+i,none⟩) (Zaa cz)).trans cz;rw[Zfj (by rw[gh];exact g4)] at cq;obtain⟨y,hy⟩:∃ y,y=l.getD q 0:=⟨_,rfl⟩;rw[<- hy] at cq;have HY:=Hd hy;clear hy;go_upto_region 8 with fail;refine Zam (fun W:World=>W.cell? ⟨bv,ov+q,none⟩=some (.int .i64 (y:Nat))/\W.cell? ⟨bz,oz+i,none⟩=some (.int .i64 (zi:Nat))/\Hid (Below w3.heap.size w3 W)) false 15
     [(0,false),(1,false),(2,false),(3,false),(4,false),(5,false),(6,false),(7,false),(8,false),(9,false),(10,false),(11,false),(12,false),(13,false),(14,false)] (by kernel_rfl) (by kernel_rfl) ⟨cq,cz',Hd (g0.out.trans ((Zaf wq 1).mono g0.out.size))⟩ ?_
    simp only[planned,Zcc]
    iterate 5
     refine Zaj rfl ?_;apply Exists.intro;refine⟨fun w' hw=>?_,?_⟩
     . obtain⟨h1,h2,_⟩:=hw;go_simp;rfl
     simp only[Zae]
    iterate 9
     refine Zb2 true (by go_simp) ?_;apply Exists.intro;refine⟨fun gQ w' hw=>?_,?_⟩
     . obtain⟨h1,h2,_⟩:=hw;go_simp;rfl
     simp only[Zae]
    iterate 1
     refine Zaj rfl ?_;apply Exists.intro;refine⟨fun w' hw=>?_,?_⟩
     . obtain⟨h1,h2,_⟩:=hw;go_simp;rfl
     simp only[Zae]
    refine Zb8 ?_
    by_cases gL:q<p
    .
     have g9:((y:Int) != (zi:Int))=true:=by
      simp only[bne_iff_ne,ne_eq];intro e;have e2:l.getD q 0=l.getD p 0:=by rw[g5.out,<- HY.out];omega
      have:=gG.out q p g4 gg e2;omega
     go_wp2_with fail;go_roundw
     case rel=>exact⟨q+1,by omega,by omega,by go_num,Hd (g0.out.trans ((Zaf wq 1).mono g0.out.size))⟩
     case measure=>simp[intOf];omega
    .
     obtain rfl:q=p:=by omega
     have g9:((y:Int) != (zi:Int))=false:=by
      have:y=zi:=by rw[HY.out,g5.out]
      rw[this];simp
     have gN:((q:Int) == (n:Int))=false:=by simp;omega
     have gl:Hid (R (fun l'=>(∀ j,j<i->((l'.getD j 0:Nat):Int)=at0 zs j)/\l'.getD q 0=zi) wq.drew):=Hd (by
      have h1:=gB.out _ _ _ gm.out (g0.out.trans ((Zaf wq 1).mono g0.out.size));exact gk.out _ _ _ h1 fun l' _ e=>by subst e;exact⟨gF.out,g5.out⟩)
     rw[g9];clear gm g0 go cq cz cz' g9;go_wp2_with fail
     go_loopw [4,7] (fun s4 s7 wr=>∃ q:Nat,i<=q/\q<n/\s7=.int .i64 q/\Hid (R (fun l'=>(∀ j,j<i->((l'.getD j 0:Nat):Int)=at0 zs j)/\l'.getD q 0=zi) wr)) (fun _ s7 _=>(intOf s7).toNat)
     case atStart=>exact⟨q,gw,g4,rfl,gl⟩
     case round =>
      clear gl HY g5
      rename World=>wt
      obtain⟨t,gK,gv,rfl,gd⟩:=hrel
      by_cases gJ:i<t
      .
       obtain⟨t',rfl⟩:∃ t',t=t'+1:=⟨t-1,by omega⟩;have gu:((t'+1:Nat):Int)>i:=by omega
       have HS:=Hd (gj.out wt _ gd.out t' gv (fun l'=>(∀ j,j<i->((l'.getD j 0:Nat):Int)=at0 zs j)/\l'.getD t' 0=zi) (fun l' hl ⟨g1,g2⟩=>⟨fun j hj=>by rw[Zzg (by omega) (by omega)];exact g1 j hj,by rw[Zrx (by omega)];exact g2⟩));have gH:((t'+1:Nat):Int)-1=(t':Nat):=by omega
       go_upto_region 14 with fail;go_wp2_with fail;refine HS.out.mono ?_;rintro x w5 ⟨rfl,gf⟩;have gD:=Hd gf;clear gf HS gd;go_wp2_with fail;go_roundw
       case rel=>exact⟨t',by omega,by omega,by go_num,gD⟩
       case measure=>simp[intOf]
      .
       obtain rfl:t=i:=by omega
       have gC:Hid (R (fun l=>∀ j,j<t+1->((l.getD j 0:Nat):Int)=at0 zs j) wt):=Hd (by
        refine gk.out _ _ _ gd.out fun l' _ ⟨g1,g2⟩ j hj=>?_
        rcases Nat.lt_or_ge j t with h|h
        . exact g1 j h
        .
         obtain rfl:j=t:=by omega
         rw[g2,EZI.out])
       have gu:¬ (t:Int)>t:=by omega
       go_wp2_with fail;go_roundw
       case rel=>exact⟨t+1,by omega,by go_num,gC⟩
       case measure=>simp[intOf];omega
  .
   have he:i=zs.length:=by omega
   have gy:¬ (i:Int)<zs.length:=by omega
   go_wp2_with fail;go_ret;exact⟨rfl,by rw[<- he];exact HR.out⟩
end
open Go.RowKit
theorem Zto (i n:Nat)(hi:i<=1048576)(hn:n<=16)(w:World):Calls prog 132 #[.int .i64 i,.int .i64 n] w fun x w'=>∃ v,x=.returned v/\OwnB w' w.heap.size v (Zd5 i n)/\Below w.heap.size w w':=by
 go_enter func132,ntmps132
 go_wp2_with fail
 go_loopw [0,5,6] (fun s0 s5 s6 wr=>∃ j q:Nat,j<=n/\q<=1048576/\s6=.int .i64 j/\s0=.int .i64 q/\Hid (i/2^j=q)/\OwnB wr w.heap.size s5 (Zd5 i j)/\w.heap.size<=wr.heap.size/\Below w.heap.size w wr) (fun _ _ s6 _=>n-(intOf s6).toNat)
 case atStart=>exact⟨0,i,Nat.zero_le _,hi,rfl,rfl,Hd (by simp),Zen _ w _ (Nat.le_refl _),by simp,Zad w _⟩
 case round =>
  obtain⟨j,q,hj,hq,rfl,rfl,HQ,g0,g5,g1⟩:=hrel
  by_cases g7:j<n
  .
   have HB:Hid (((q:Int).tmod 2 == 1)=bitB i j):=by
    refine Hd ?_;rw[tmod2];unfold bitB;rw[HQ.out]
   have g2:=Hd g0;have g3:=Hd g1;clear g0 g1;go_wp2_with (at_builtin;refine Zby Zhg _ rfl _ _ rfl w.heap.size _ (Zbv (Zd5 i j)) _ rfl rfl rfl rfl rfl (by exact g2.out) (by simp[Zbv,Zfb];omega) g5 ?_;intro v1 w1 g4 e1 e2 e3 e4 g6);go_roundw
   case rel =>
    refine⟨j+1,q/2,by omega,by omega,by go_num,by go_num,Hd ?_,?_,by omega,Zfr g3.out g2.out e1 e2 e3 e4 g6 g5⟩
    . rw[Nat.pow_succ,<- Nat.div_div_eq_div_mul,HQ.out]
    . rw[Zmc];unfold OwnB;rw[Zh2,<- HB.out];exact g4
   case measure=>simp[intOf];omega
  .
   have he:j=n:=by omega
   subst he;have g2:=Hd g0;have g3:=Hd g1;clear g0 g1;go_wp2_with fail;go_ret;exact⟨_,rfl,g2.out,g3.out⟩
theorem Zyp {T ST:TypeId}{z:Value}{b:Nat}(E:Zod T ST z b)(ty:TypeId)(wr:World)(base:Nat)(v:Value)(xs:List Value)(y:Value)(hy:y.oneCell'=true)(hown:OwnC T wr base v xs)(hlen:xs.length<1099511627776)(hbase:base<=wr.heap.size) :
 ∃ v' w',(Builtin.append_ #[ST,ST] ty #[v,.slice (some ⟨wr.heap.size,0,none⟩) 1 1]).run prog (wr.alloc (.cells #[y] T))=.ok v' w' /\
  OwnC T w' base v' (xs++[y])/\w'.os=wr.os/\w'.tape=wr.tape/\w'.output=wr.output/\wr.heap.size<=w'.heap.size/\Zda v v' wr w':=by
 obtain⟨i,hi,hz,g1,g3⟩:=info_parts E.info;have g2:=E.small;obtain⟨v',w',hr,h1,h2,_,g0⟩:=run_append_own_at (P:=prog) (wr.alloc (.cells #[y] T)) base ST ty T i z 1 b E.under hi hz g1 g3 (by rw[E.one];rfl) (by decide)
  v xs.length xs (hown.alloc _) ⟨wr.heap.size,0,none⟩ 1 1 [y] rfl (cell_one_new _ _ _) (by intro u hu;simp at hu;subst hu;exact hy) (by unfold maxLen;omega) (by
   have h1:(xs.length+1)*b<=1099511627776*100:=Nat.mul_le_mul (by omega) g2;omega) (by simp;omega)
 refine⟨v',w',hr,?_,h2.os,h2.tape,h2.output,?_,⟨Zee h2,g0.imp id fun e=>⟨_,e,by simp⟩⟩⟩
 . unfold OwnC;rw[List.length_append];exact h1
 . have:=h2.size;simp at this;omega
theorem OwnC.lower {T:TypeId}{w:World}{base b:Nat}{v:Value}{xs:List Value}(h:OwnC T w base v xs)(hb:b<=base):OwnC T w b v xs:=by
 refine⟨h.1,?_⟩;rcases h.2 with hn|⟨g,cap,cur,rfl,g0,rest⟩
 . exact .inl hn
 . exact .inr ⟨g,cap,cur,rfl,by omega,rest⟩
theorem Zlz (e:ExT)(x:Value)(n:Nat)(hn:n<=12)(w:World)(hs:e.size<=4096)(hok:okT e 1)(h:Zbe w e x) :
 Calls prog 73 #[x,.int .i64 n] w fun y w'=>∃ v,y=.returned v/\OwnB w' w.heap.size v (tabB n (fnT e))/\Below w.heap.size w w':=by
 have gv:Hid (∀ W,Below w.heap.size w W->∀ u,u=x->Calls prog 69 #[u] W fun y w'=>y=.returned (.int .i64 0)/\Below W.heap.size W w'):=Hd fun W hb u hu=>by
  subst hu
  exact(Zh3 e _ W hs (h.below hb)).mono (by
   rintro y w' ⟨err,rfl,h1,h2⟩;rw[h1.2 hok];exact⟨rfl,h2⟩)
 have gz:Hid (∀ W,Below w.heap.size w W->∀ u,u=x->∀ (ls:List Bool) al cl,Zgn W al ls->Calls prog 131 #[u,.slice al ls.length cl] W fun y w'=>y=.returned (.bool (fnT e (Zdc ls)))/\Below W.heap.size W w'):=Hd fun W hb u hu ls al cl hl=>by
  subst hu;exact Zlo ls al cl e _ W hok.valid (h.below hb) hl
 have gj:Hid (∀ j,j<=1048576->∀ W,Calls prog 132 #[.int .i64 (j:Nat),.int .i64 n] W fun x w'=>∃ v,x=.returned v/\OwnB w' W.heap.size v (Zd5 j n)/\Below W.heap.size W w'):=Hd fun j hj W=>Zto j n hj (by omega) W
 have HS:Hid (∀ k,k<=n->2^k<=4096):=Hd fun k hk=>Nat.le_trans (Nat.pow_le_pow_right (by omega) (show k<=12 by omega)) (by decide)
 obtain⟨x0,x1,x2,hx,o0,o1,o2⟩:=h.agg;subst hx;obtain⟨w1,g5⟩:∃ w1,w1=w.alloc (.cells #[x0,x1,x2] 81):=⟨_,rfl⟩;have HW1:Hid (_=w1):=Hd g5.symm;have g7:Hid (Below w.heap.size w w1):=by rw[g5];exact Hd (Zad _ _)
 have g4:w1.heap[w.heap.size]?=some (.cells #[x0,x1,x2] 81 (0,0)):=by rw[g5];exact heap_alloc_new _ _
 have hs1:w1.heap.size=w.heap.size+1:=by rw[g5];simp
 have d0:w1.cell? ⟨w.heap.size,0,none⟩=some x0:=by rw[cell_of_row _ _ 0 _ _ _ g4];rfl
 have d1:w1.cell? ⟨w.heap.size,1,none⟩=some x1:=by rw[cell_of_row _ _ 1 _ _ _ g4];rfl
 have d2:w1.cell? ⟨w.heap.size,2,none⟩=some x2:=by rw[cell_of_row _ _ 2 _ _ _ g4];rfl
 obtain⟨L,hL⟩:∃ L,L=2^n:=⟨_,rfl⟩;have gE:=Hd hL;obtain⟨G,hG⟩:∃ G:Nat->Bool,G=fun i=>fnT e (Zdc (Zd5 i n)):=⟨_,rfl⟩
 have HG:Hid (∀ i,fnT e (Zdc (Zd5 i n))=G i):=Hd fun i=>by rw[hG]
 have HT:Hid (tabB n (fnT e)=(List.range L).map G):=Hd (by rw[hL,hG];rfl);have gK:L<=4096:=by rw[hL];exact HS.out n (Nat.le_refl _)
 rw[HT.out];clear h g5 g4 hG hL
 go_enter func73,ntmps73
 go_upto_region 1 with fail;rw[HW1.out];have gJ:¬ (n:Int)<0:=by omega
 have gH:¬ (n:Int)>12:=by omega
 go_wp2_with fail;refine(gv.out _ g7.out _ rfl).mono ?_;rintro y w2 ⟨rfl,gr⟩;have HB2:=Hd gr;clear gr gv;go_wp2_with fail
 go_loopw [5,6] (fun s5 s6 wr=>∃ k p:Nat,k<=n/\s5=.int .i64 p/\s6=.int .i64 k/\Hid (wr=w2)/\Hid (2^k=p)) (fun _ s6 _=>n-(intOf s6).toNat)
 case atStart=>exact⟨0,1,Nat.zero_le _,rfl,rfl,Hd rfl,Hd rfl⟩
 case round =>
  obtain⟨k,p,hk,rfl,rfl,gg,HP⟩:=hrel;have gI:p<=4096:=by rw[<- HP.out];exact HS.out k hk
  by_cases gm:k<n
  .
   go_wp2_with fail;go_roundw
   case rel=>exact⟨k+1,2*p,by omega,by go_num,by go_num,gg,Hd (by rw[Nat.pow_succ,HP.out];omega)⟩
   case measure=>simp[intOf];omega
  .
   obtain rfl:k=n:=by omega
   obtain rfl:p=L:=by rw[<- HP.out,gE.out]
   have gB:=gg.out;subst gB;obtain⟨w3,g8⟩:∃ w3,w3=wr.alloc (.cells #[] 4):=⟨_,rfl⟩;have gt:Hid (_=w3):=Hd g8.symm;have gf:Below w1.heap.size w1 w3:=by rw[g8];exact HB2.out.trans ((Zad _ _).mono HB2.out.size)
   have gh:Hid (OwnB w3 w1.heap.size (.slice (some ⟨wr.heap.size,0,none⟩) 0 0) []):=by rw[g8];exact Hd (Zen _ _ _ HB2.out.size)
   have gx:=Hd gf;have gk:w1.heap.size<=w3.heap.size:=gf.size;clear g8 gf gm;go_upto_region 9 with fail;rw[gt.out];go_wp2_with fail
   go_loopw [7,8] (fun s7 s8 wr=>∃ j:Nat,j<=p/\s8=.int .i64 j/\Hid (OwnB wr w1.heap.size s7 ((List.range j).map G))/\Hid (Below w1.heap.size w1 wr)/\w1.heap.size<=wr.heap.size) (fun _ s8 _=>p-(intOf s8).toNat)
   case atStart=>exact⟨0,Nat.zero_le _,rfl,gh,gx,gk⟩
   case round =>
    clear gh gx gk gt gg HB2
    rename World=>wq
    obtain⟨j,hj,rfl,gu,g3,gC⟩:=hrel
    by_cases gm:j<p
    .
     have e0:=(g3.out.cell (p:=⟨w.heap.size,0,none⟩) (Zaa d0)).trans d0;have e1:=(g3.out.cell (p:=⟨w.heap.size,1,none⟩) (Zaa d1)).trans d1;have e2:=(g3.out.cell (p:=⟨w.heap.size,2,none⟩) (Zaa d2)).trans d2;have HL:=Hd (gj.out j (by omega) wq.drew);go_upto_region 12 with fail;refine Zam (fun W:World=>W.cell? ⟨w.heap.size,0,none⟩=some x0/\W.cell? ⟨w.heap.size,1,none⟩=some x1/\W.cell? ⟨w.heap.size,2,none⟩=some x2) false 9
      [(0,false),(1,false),(2,false),(3,false),(4,true),(5,true),(6,true),(7,true),(8,false)] (by kernel_rfl) (by kernel_rfl) ⟨e0,e1,e2⟩ ?_
     simp only[planned,Zcc]
     iterate 4
      refine Zaj rfl ?_;apply Exists.intro;refine⟨fun w' hw=>?_,?_⟩
      . obtain⟨h1,h2,h3⟩:=hw;go_simp;rfl
      simp only[Zae]
     refine Zb6 (R:=fun v w'=>Zdj w' v (Zd5 j k)/\Below wq.heap.size wq w') rfl (by go_simp) (HL.out.mono (fun e w' he=>?_)) ?_
     . obtain⟨v,rfl,q1,q2⟩:=he;have q3:Below wq.heap.size wq w':=(Zaf wq 1).trans (q2.mono (Zaf wq 1).size);exact⟨v,rfl,⟨(q3.cell (p:=⟨w.heap.size,0,none⟩) (Zaa e0)).trans e0,(q3.cell (p:=⟨w.heap.size,1,none⟩) (Zaa e1)).trans e1,(q3.cell (p:=⟨w.heap.size,2,none⟩) (Zaa e2)).trans e2⟩,q1.boolsIs (by rw[Zfb];omega),q3⟩
     rintro v w4 ⟨f0,f1,f2⟩ ⟨⟨av,cv,rfl,go,-⟩,gq⟩;have gw:=Hd go;have gd:=Hd gq;clear go gq e0 e1 e2 HL;simp only[Zae];refine Zb6 (R:=fun v w'=>v=.bool (G j)/\Below w4.heap.size w4 w') rfl (by go_simp) ((gz.out w4 (g7.out.trans ((g3.out.trans (gd.out.mono g3.out.size)).mono g7.out.size)) _ rfl (Zd5 j k) av cv gw.out).mono (fun e w' he=>?_)) ?_
     . obtain⟨rfl,q3⟩:=he;exact⟨_,rfl,⟨(q3.cell (p:=⟨w.heap.size,0,none⟩) (Zaa f0)).trans f0,(q3.cell (p:=⟨w.heap.size,1,none⟩) (Zaa f1)).trans f1,(q3.cell (p:=⟨w.heap.size,2,none⟩) (Zaa f2)).trans f2⟩,by rw[HG.out],q3⟩
     rintro v w5 ⟨g0,g1,g2⟩ ⟨rfl,gp⟩;obtain⟨y,hy⟩:∃ y,y=G j:=⟨_,rfl⟩;rw[<- hy];have gD:Hid (Zbv ((List.range (j+1)).map G)=Zbv ((List.range j).map G)++[.bool y]):=Hd (by rw[Zmv,Zh2,hy]);have ga:=gd.out.trans (gp.mono gd.out.size);have gG:=Hd (g3.out.trans (ga.mono g3.out.size));have gi:=Hd (gu.out.below ga);have ge:w1.heap.size<=w5.heap.size:=Nat.le_trans gC ga.size;clear gp ga f0 f1 f2 hy gw gd;simp only[Zae];have gc:=Zad w5 (.cells #[.bool y] 4);refine Zd9 (v:=.slice (some ⟨w5.heap.size,0,none⟩) 1 1) (w':=w5.alloc (.cells #[.bool y] 4)) rfl (by go_simp) ⟨(gc.cell (p:=⟨w.heap.size,0,none⟩) (Zaa g0)).trans g0,(gc.cell (p:=⟨w.heap.size,1,none⟩) (Zaa g1)).trans g1,(gc.cell (p:=⟨w.heap.size,2,none⟩) (Zaa g2)).trans g2⟩ ?_;simp only[Zae];obtain⟨v6,w6,gl,g9,q1,q2,q3,q4,gn⟩:=Zyp Zhg 55 w5 w1.heap.size _ (Zbv ((List.range j).map G)) (.bool y) rfl gi.out (by simp[Zbv];omega) ge;have g6:=Zfr gG.out gi.out q1 q2 q3 q4 gn ge;refine Zd9 (v:=v6) (w':=w6) rfl (Zku rfl rfl rfl gl) ⟨(g6.cell (p:=⟨w.heap.size,0,none⟩) (Zaa d0)).trans d0,(g6.cell (p:=⟨w.heap.size,1,none⟩) (Zaa d1)).trans d1,(g6.cell (p:=⟨w.heap.size,2,none⟩) (Zaa d2)).trans d2⟩ ?_;simp only[Zae]
     iterate 1
      refine Zaj rfl ?_;apply Exists.intro;refine⟨fun w' hw=>?_,?_⟩
      . obtain⟨h1,h2,h3⟩:=hw;go_simp;rfl
      simp only[Zae]
     refine Zb8 ?_;have gF:=Hd g6;have gA:=Hd g9;have gy:w1.heap.size<=w6.heap.size:=by omega
     clear g6 g9 q1 q2 q3 q4 gn gl g0 g1 g2 gc;go_wp2_with fail;go_roundw
     case rel=>exact⟨j+1,by omega,by go_num,Hd (by unfold OwnB;rw[gD.out];exact gA.out),gF,gy⟩
     case measure=>simp[intOf];omega
    .
     obtain rfl:j=p:=by omega
     have HF:Hid (∃ v,Ending.returned u7=.returned v/\OwnB wq w.heap.size v ((List.range j).map G)/\Below w.heap.size w wq):=Hd ⟨u7,rfl,gu.out.lower (by omega),g7.out.trans (g3.out.mono g7.out.size)⟩;go_wp2_with fail;go_ret;exact HF.out
open Go.RowKit
section
variable {P:Program}(w:World)
theorem Zj2 (t ty e:TypeId)(i:TypeInfo)(ht:P.underlying t=some (.slice e))(hi:P.info? e=some i)
 (g off sLen sCap:Nat) (cur:Array Value) (hg:w.heap[g]?=some (.cells cur e (0,0)))
 (a:Addr) (m c:Nat) (news:List Value) (hl:news.length=m*i.size) (hnews:∀ j u,news[j]?=some u->w.cell? (a.add j)=some u) (h1:∀ u∈news,u.oneCell'=true)
 (hroom:sLen+m<=sCap) (hfit:off+sLen*i.size+news.length<=cur.size) :
 (Builtin.append_ #[t,t] ty #[.slice (some ⟨g,off,none⟩) sLen sCap,.slice (some a) m c]).run P w =
  .ok (.slice (some ⟨g,off,none⟩) (sLen+m) sCap) (w.setRow g (cur.toList.take (off+sLen*i.size)++news++cur.toList.drop (off+sLen*i.size+news.length)).toArray):=by
 have hf:=run_firstCells_some (P:=P) w i.size m a m c news hl hnews;have g0:=run_storeCells_at P g (off+sLen*i.size) e news 0 cur w hg (by simpa using hfit) h1;simp only[Nat.add_zero] at g0;have g1:(⟨g,off,none⟩:Addr).add (sLen*i.size)=⟨g,off+sLen*i.size,none⟩:=by unfold Addr.add;split<;>simp_all
 simp[Builtin.append_,run_underlying ht,sizeOf,typeInfo,hi,Builtin.lenOf,hroom,hf,g1,g0]
end
theorem Ybj:(prog.info? 120).map (fun i=>(i.zero,i.size,i.bytes))=some (some (.agg #[.int .i64 0,.int .i64 0,.int .i64 0]),3,24):=by kernel_rfl
theorem Yad (l:List Ev):∀ (j:Nat) (u:Value),(l.flatMap evL)[j]?=some u->∃ hk:j/3<l.length,(evL (l[j/3]))[j%3]?=some u:=by
 induction l with
 | nil=>intro j u h;simp at h
 | cons e l ih =>
   intro j u h;rw[List.flatMap_cons] at h
   by_cases hj:j<3
   .
    rw[List.getElem?_append_left (by show j<3;exact hj)] at h;have e0:j/3=0:=by omega
    refine⟨by rw[e0];simp,?_⟩;have e1:j%3=j:=by omega
    simp only[e0,e1,List.getElem_cons_zero];exact h
   .
    rw[List.getElem?_append_right (by show 3<=j;omega)] at h;obtain⟨hk,h2⟩:=ih (j-3) u h;have e0:j/3=(j-3)/3+1:=by omega
    have e1:j%3=(j-3)%3:=by omega
    refine⟨by rw[e0,List.length_cons];omega,?_⟩;simp only[e0,e1,List.getElem_cons_succ];exact h2
theorem EvsAt.news {w:World}{b off:Nat}{l:List Ev}(h:EvsAt w (some ⟨b,off,none⟩) l):∀ j u,(l.flatMap evL)[j]?=some u->w.cell? ((⟨b,off,none⟩:Addr).add j)=some u:=by
 intro j u hu;have g0:(⟨b,off,none⟩:Addr).add j=⟨b,off+j,none⟩:=by unfold Addr.add;split<;>simp_all
 obtain⟨hk,h2⟩:=Yad l j u hu;obtain⟨b',off',e,c0,c1,c2⟩:=h.cells (j/3) hk;cases e;rw[g0];have hm:j%3<3:=Nat.mod_lt _ (by decide);rcases(by omega:j%3=0\/j%3=1\/j%3=2) with e|e|e<;>rw[e] at h2
 .
  have e2:j=j/3*3:=by omega
  rw[e2,c0];exact h2
 .
  have e2:j=j/3*3+1:=by omega
  rw[e2,<- Nat.add_assoc,c1];exact h2
 .
  have e2:j=j/3*3+2:=by omega
  rw[e2,<- Nat.add_assoc,c2];exact h2
theorem Yae (l:List Ev):∀ u∈l.flatMap evL,u.oneCell'=true:=by
 intro u hu;obtain⟨e,_,h⟩:=List.mem_flatMap.1 hu;simp only[evL,List.mem_cons,List.not_mem_nil,or_false] at h;rcases h with rfl|rfl|rfl<;>rfl
theorem Zjv {o:Own}{w:World}{v:Value}{ws l:List Ev}{a:Option Addr}{c:Nat}(h:Zb3 o w v ws)(hlt:Zal o w)(hev:EvsAt w a l)(hsm:ws.length+l.length<=1000)(ty:TypeId) :
 ∃ v' w' o',(Builtin.append_ #[37,37] ty #[v,.slice a l.length c]).run prog w=.ok v' w'/\Zb3 o' w' v' (ws++l)/\Chg (· = .waits) o o' w w'/\Zal o' w':=by
 obtain⟨i,hi,hz,g3,gc⟩:=info_parts Ybj;have ht:=underlying37
 by_cases h0:l=[]
 .
  subst h0;refine⟨v,w,o,?_,by rw[List.append_nil];exact h,Chg.refl _ _ _,hlt⟩;rcases h.ex with ⟨rfl,rfl⟩|⟨g,off,cap,cur,rfl,_,_,hn,_⟩
  . cases a<;>simp[Builtin.append_,run_underlying ht,sizeOf,typeInfo,hi,Builtin.lenOf,Builtin.firstCells,loadCells,loadCellsFrom]
  . cases a<;>simp[Builtin.append_,run_underlying ht,sizeOf,typeInfo,hi,Builtin.lenOf,hn,Builtin.firstCells,storeCells,loadCells,loadCellsFrom]
 .
  have ga:0<l.length:=List.length_pos_iff.2 h0;obtain⟨b,off,rfl,_⟩:=hev.cells 0 ga;have g0:=hev.news;have gd:=Yae l;have g5:(l.flatMap evL).length=l.length*i.size:=by rw[g3];exact Zc6 l
  have g9:(ws.flatMap evL++l.flatMap evL).length=(ws++l).length*3:=by rw[List.length_append,Zc6,Zc6,List.length_append];omega
  have mk:∀ (old:Nat),Zb3 (Zcx o w.heap.size .waits) (w.drew.alloc (.cells ((ws.flatMap evL).toArray++(l.flatMap evL).toArray++Builtin.zeroCells (Value.agg #[.int .i64 0,.int .i64 0,.int .i64 0]).cells (grownCap w (ws.length+l.length) old 120-(ws.length+l.length))) 120)) (.slice (some ⟨w.heap.size,0,none⟩) (ws.length+l.length) (grownCap w (ws.length+l.length) old 120)) (ws++l) /\
   Chg (· = .waits) o (Zcx o w.heap.size .waits) w (w.drew.alloc (.cells ((ws.flatMap evL).toArray++(l.flatMap evL).toArray++Builtin.zeroCells (Value.agg #[.int .i64 0,.int .i64 0,.int .i64 0]).cells (grownCap w (ws.length+l.length) old 120-(ws.length+l.length))) 120)) /\
   Zal (Zcx o w.heap.size .waits) (w.drew.alloc (.cells ((ws.flatMap evL).toArray++(l.flatMap evL).toArray++Builtin.zeroCells (Value.agg #[.int .i64 0,.int .i64 0,.int .i64 0]).cells (grownCap w (ws.length+l.length) old 120-(ws.length+l.length))) 120)):=by
   intro old;have gi:=grownCap_ge w (ws.length+l.length) old 120;have g6:grownCap w (ws.length+l.length) old 120<=maxLen:=grownCap_le_maxLen w _ old _ (by unfold maxLen;omega);refine⟨⟨.inr ⟨w.heap.size,0,_,_,by rw[List.length_append],Zbg _ _ _,heap_alloc_new w.drew _,by rw[List.length_append];exact gi,g6,?_,?_⟩⟩,((Chg.refl (· = .waits) o w).drewN 1).allocR (w':=w.drewN 1) hlt _ rfl,Zal.allocR (w:=w.drewN 1) hlt _ .waits⟩
   . have e3:(Value.agg #[.int .i64 0,.int .i64 0,.int .i64 0]).cells.size=3:=rfl;simp only[Array.size_append,List.size_toArray,size_zeroCells,e3,Zc6,Nat.zero_add];omega
   . simp only[Array.toList_append,List.drop_zero,List.flatMap_append];rw[List.take_left' g9]
  rcases h.ex with ⟨rfl,rfl⟩|⟨g,off2,cap,cur,rfl,g8,hg,gh,g6,gj,g2⟩
  . have hr:=run_append_nil (P:=prog) w 37 ty 120 i _ ht hi hz ⟨b,off,none⟩ l.length c (l.flatMap evL) g5 g0 ga (by simp at hsm;omega) (by rw[gc];simp at hsm;omega);have hm:=mk 0;simp only[List.length_nil,Nat.zero_add,List.flatMap_nil,List.nil_append,Array.empty_append] at hm ⊢;exact⟨_,_,_,hr,hm⟩
  .
   by_cases g4:ws.length+l.length<=cap
   .
    have g1:off2+ws.length*i.size+(l.flatMap evL).length<=cur.size:=by rw[g5,g3];omega
    have hr:=Zj2 (P:=prog) w 37 ty 120 i ht hi g off2 ws.length cap cur hg ⟨b,off,none⟩ l.length c (l.flatMap evL) g5 g0 gd g4 g1;refine⟨_,_,o,hr,⟨.inr ⟨g,off2,cap,_,by rw[List.length_append],g8,setRow_heap w g cur _ _ _ hg,by rw[List.length_append];exact g4,g6,?_,?_⟩⟩,⟨rfl,rfl,rfl,by simp,fun k _ hk=>setRow_other w g k _ (by rintro rfl;exact hk _ g8 rfl),fun _ _ h=>h,fun _ h=>(h rfl).elim⟩,fun k q hq=>by have:=hlt k q hq;simpa using this⟩
    . simp only[List.size_toArray,List.length_append,List.length_take,List.length_drop,Array.length_toList];omega
    .
     rw[g3] at g1 ⊢;have e1:(cur.toList.take (off2+ws.length*3)).drop off2=ws.flatMap evL:=by
      rw[<- g2,List.drop_take,Nat.add_sub_cancel_left]
     have e2:off2<=(cur.toList.take (off2+ws.length*3)).length:=by
      have hq:ws.length*3<=cap*3:=Nat.mul_le_mul_right _ gh;have gg:off2+ws.length*3<=cur.size:=by clear g1;omega
      have gf:cur.toList.length=cur.size:=Array.length_toList;rw[List.length_take,gf,Nat.min_eq_left gg];exact Nat.le_add_right _ _
     simp only[List.append_assoc];rw[List.drop_append_of_le_length e2,e1,<- List.append_assoc,List.flatMap_append,List.take_left' g9]
   .
    have g7:∀ j u,(ws.flatMap evL)[j]?=some u->w.cell? ((⟨g,off2,none⟩:Addr).add j)=some u:=by
     intro j u hu;have ge:(⟨g,off2,none⟩:Addr).add j=⟨g,off2+j,none⟩:=by unfold Addr.add;split<;>simp_all
     rw[ge,cell_of_row w g (off2+j) cur _ _ hg];rw[<- g2,List.getElem?_take] at hu;split at hu
     . rw[List.getElem?_drop] at hu;simpa using hu
     . cases hu
    have hr:=run_append_grow (P:=prog) w 37 ty 120 i _ ht hi hz ⟨g,off2,none⟩ ws.length cap (ws.flatMap evL) (by rw[g3];exact Zc6 ws) g7 ⟨b,off,none⟩ l.length c (l.flatMap evL) g5 g0 (by omega) (by omega) (growslice_fits (by omega) (by rw[gc];omega));exact⟨_,_,_,hr,mk cap⟩
open Go.RowKit
theorem Zb3.form {o:Own}{w:World}{v:Value}{ws:List Ev}(h:Zb3 o w v ws):∃ a c,v=.slice a ws.length c:=by
 rcases h.ex with ⟨rfl,rfl⟩|⟨g,off,cap,cur,rfl,_⟩
 . exact⟨_,_,rfl⟩
 . exact⟨_,_,rfl⟩
theorem Zlq {P:Program}{ops:Array Oper}{rest:List Oper}{op:Oper}{a:Act}{Q:Exit->Act->World->Prop}{w w':World}{vs vx v':Value}(hgd:op.guard=none)(s x:Operand)(t:TypeId)
 (hop:op.op=.call { callee:=.builtin .append,args:=#[s,x],argTypes:=#[t,t] }) (hs:a.eval s=vs) (hx:a.eval x=vx) (hr:(Builtin.append_ #[t,t] op.type #[vs,vx]).run P w=.ok v' w')
 (hK:wpList P ops Q rest (a.put op.dst v') w'):wpList P ops Q (op::rest) a w:=by
 refine wpList_plain hgd fun K g0=>?_
 unfold Oper.wp execOp;simp only[hop,resolve,invoke,builtin,Sem.run_bind,Sem.run_pure,Result.andThen_ok,List.map_toArray,List.map_cons,List.map_nil,hs,hx,hr];exact g0 _ _ hK
theorem Zcg.setWaits {F:Phi}{o o':Own}{w w':World}{mb:Nat}{m:ManD}{s:ManW}(h:Zcg F o w mb m s)(hlt:Zal o w){v':Value}{l':List Ev}(hw:Zb3 o' w' v' l')(hc:Chg (· = .waits) o o' w w'):Zcg F o' (w'.setCell ⟨mb,4,none⟩ v') mb { m with waits:=l' } { s with vw:=v' }:=by
 have key:∀ {g r},o g=some r->r ≠ .man->r ≠ .waits->(w'.setCell ⟨mb,4,none⟩ v').heap[g]?=w.heap[g]?:=by
  intro g r hg h1 h2;refine(Zai (p:=⟨mb,4,none⟩) (fun e=>?_) _).trans (hc.same hlt hg h2);have e':g=mb:=e;subst e';have:=h.own;rw[hg] at this;cases this;exact h1 rfl
 refine⟨hc.ext _ _ h.own,?_,h.store.keepR (fun g r hg hr=>key hg (by rintro rfl;simp[Zar,Zfi] at hr) (by rintro rfl;simp[Zar,Zfi] at hr)) hc.ext,h.memo.keep (fun g r hg hr=>key hg (by rintro rfl;rcases hr with e|e<;>cases e) (by rintro rfl;rcases hr with e|e<;>cases e)) hc.ext,hc.ext _ _ h.ownh,h.map.keepB (key h.ownh (by simp) (by simp)),hw.keep (fun g hg=>Zai (p:=⟨mb,4,none⟩) (fun e=>?_) _) (fun _ h=>h)⟩
 . exact Zah ((hc.same hlt h.own (by simp)).trans h.blk) _
 . have e':g=mb:=e;subst e';have:=hc.ext _ _ h.own;rw[hg] at this;cases this
section
variable {K:Law}{n:Nat}{Od:List Nat->Prop}{room:Nat}{w0 w w':World}{mb:Nat}{fs:List (Int×BF)}{nx:Int}{o o':Own}{m m':ManD}{V V':Nat->BF}
structure Planned (K:Law)(n:Nat)(Od:List Nat->Prop)(room:Nat)(w0:World)(mb:Nat)(fs:List (Int×BF))(nx:Int)(o:Own)(w:World)(m:ManD)(V:Nat->BF)(l:List Ev)(z:Int)(o':Own)(w':World)(m':ManD):Prop where
 sat:SatE K n Od room w0 mb fs nx w' o' m' V
 d:m'.d=m.d
 chg:Chg (fun _=>True) o o' w w'
 no:z≠0->m'.waits=m.waits/\m'.calls=m.calls
 yes:z=0->m'.waits=m.waits++l/\m'.calls=if m.waits=[] then 0 else m.calls
theorem Zrc (h:SatE K n Od room w0 mb fs nx w o m V){a:Option Addr}{c:Nat}{l:List Ev}(hev:EvsAt w a l)(hno:0<l.length->∀ x,a=some x->o x.block=none)(hwl:m.waits.length<=256) :
 Calls prog 74 #[.pointer (some ⟨mb,0,none⟩),.slice a l.length c] w fun e w'=>e=.returned (.int .i64 (Ze9 n m.waits.length l))/\∃ o' m',Planned K n Od room w0 mb fs nx o w m V l (Ze9 n m.waits.length l) o' w' m':=by
 obtain⟨Q,hQ⟩:∃ Q:Ending->World->Prop,Q=fun e w'=>e=.returned (.int .i64 (Ze9 n m.waits.length l))/\∃ o' m',Planned K n Od room w0 mb fs nx o w m V l (Ze9 n m.waits.length l) o' w' m':=⟨_,rfl⟩
 rw[<- hQ];have HQ:=Hd hQ;clear hQ;have gI:=hev.len;have hn64:n<=64:=by rw[<- h.vars];exact h.ok.store.small
 obtain⟨s,hs⟩:=h.is;obtain⟨c0,c1,c2,c3,c4,c5,f0⟩:=cells6 hs.blk;obtain⟨av,cv,gj⟩:=hs.waits.form
 have g1:Hid (∀ (z:Int) W,Below w.heap.size w W->Ze9 n m.waits.length l=z->z≠0->Q (.returned (.int .i64 z)) W):=Hd (by
  intro z W hb hz h0;rw[HQ.out,hz];exact⟨rfl,o,m,h.below hb,rfl,Chg.of_below hb _ _,fun _=>⟨rfl,rfl⟩,fun e=>(h0 e).elim⟩)
 have HV:Hid (∀ W,Below w.heap.size w W->Calls prog 58 #[.pointer (some ⟨mb,0,none⟩)] W fun e w'=>e=.returned (.int .i64 n)/\w'=W):=Hd (fun W hb=>(Zk3 (h.below hb).is).mono fun e w' q=>⟨by rw[q.1,h.vars],q.2.symm⟩);have HI:=Hd hev;have HS:=Hd hs;have HH:=Hd h;have gF:=Hd hno;rw[gj] at c4;have gv:=Hd gj;have gD:=Hd hwl;clear h hs hev hno gj
 by_cases g9:(l.length:Int)>256-m.waits.length
 .
  have HF:=Hd (g1.out 18 w (Below.refl _ _) (by unfold Ze9;rw[if_pos g9]) (by decide))
  go_enter func74,ntmps74
  go_wp2_with fail;exact HF.out
 have HR:Hid (Ze9 n m.waits.length l=Zlw n (l.drop 0)):=Hd (by unfold Ze9;rw[if_neg g9];rfl);obtain⟨P,hP⟩:∃ P,P=Ze9 n m.waits.length l:=⟨_,rfl⟩;rw[<- hP] at HR g1;have gE:=Hd hP;clear hP;have HM:=Hd g9
 go_enter func74,ntmps74
 go_wp2_with fail
 go_loopw [20] (fun s20 wr=>∃ i:Nat,i<=l.length/\s20=.int .i64 i/\Hid (Below w.heap.size w wr)/\Hid (P=Zlw n (l.drop i))) (fun s20 _=>l.length-(intOf s20).toNat)
 case atStart=>exact⟨0,Nat.zero_le _,rfl,Hd (Below.refl _ _),HR⟩
 case round =>
  clear HR;obtain⟨i,hi,rfl,HB,HP⟩:=hrel
  by_cases gg:i<l.length
  .
   obtain⟨b,off,rfl,e0,e1,e2⟩:=(HI.out.below HB.out).cells i gg;have gB:(i:Int)<l.length:=by omega
   have HC:Hid (∀ z:Int,Zhw n l[i]=z->z≠0->P=z):=Hd fun z hz h0=>by rw[HP.out,Zhl gg,hz,if_neg h0]
   have HN:Hid (Zhw n l[i]=0->P=Zlw n (l.drop (i+1))):=Hd fun hz=>by rw[HP.out,Zhl gg,hz,if_pos rfl]
   have HE:Hid (Zhw n l[i]=if l[i].kind<1\/l[i].kind>3 then 11 else if l[i].after<1\/(l[i].kind=2/\(l[i].level<0\/l[i].level>(n:Int)-2)) then 2 else 0):=Hd rfl;obtain⟨ev,hev⟩:∃ ev,ev=l[i]:=⟨_,rfl⟩;rw[<- hev] at e0 e1 e2 HC HN HE;obtain⟨af,ki,le⟩:=ev;dsimp only at e0 e1 e2 HE;clear hev HP c0 c1 c2 c3 c4 c5 f0;obtain⟨W,hW⟩:∃ W,W=wr.alloc (.cells #[.int .i64 af,.int .i64 ki,.int .i64 le] 120):=⟨_,rfl⟩;have gh:Below w.heap.size w W:=HB.out.trans ((show Below wr.heap.size wr W by rw[hW];exact Zad wr _).mono HB.out.size);obtain⟨bx,gn⟩:∃ q,q=wr.heap.size:=⟨_,rfl⟩;have hx:W.heap[bx]?=some (.cells #[.int .i64 af,.int .i64 ki,.int .i64 le] 120 (0,0)):=by rw[hW,gn];exact heap_alloc_new wr _
   have b0:W.cell? ⟨bx,0,none⟩=some (.int .i64 af):=by rw[cell_of_row W _ 0 _ _ _ hx];rfl
   have b1:W.cell? ⟨bx,1,none⟩=some (.int .i64 ki):=by rw[cell_of_row W _ 1 _ _ _ hx];rfl
   have b2:W.cell? ⟨bx,2,none⟩=some (.int .i64 le):=by rw[cell_of_row W _ 2 _ _ _ hx];rfl
   have HW:=Hd hW;have gG:=Hd gn;have g0:=Hd gh;have g8:Hid (∀ q,Calls prog 58 #[.pointer (some ⟨mb,0,none⟩)] (W.drewN q) fun e w'=>e=.returned (.int .i64 n)/\w'=W.drewN q):=Hd (fun q=>HV.out _ (gh.trans ((Zaf W q).mono gh.size)));have gi:=Hd gg;clear hW gn gh hx;go_upto_region 8 with fail;rw[<- HW.out,<- gG.out];have gz:ki<1\/ki>3\/(ki=2)\/(ki=1\/ki=3):=by omega
   rcases gz with hk|hk|hk|hk
   . have HF:=Hd (g1.out 11 W g0.out (HC.out 11 (by rw[HE.out,if_pos (.inl hk)]) (by decide)) (by decide));go_wp2_with fail;exact HF.out
   .
    have HF:=Hd (g1.out 11 W g0.out (HC.out 11 (by rw[HE.out,if_pos (.inr hk)]) (by decide)) (by decide));have gA:¬ ki<1:=by omega
    go_wp2_with fail;exact HF.out
   .
    by_cases ha:af<1
    .
     have HF:Hid (∀ q,Q (.returned (.int .i64 2)) (W.drewN q)):=Hd (fun q=>g1.out 2 _ (g0.out.trans ((Zaf W q).mono g0.out.size)) (HC.out 2 (by rw[HE.out,if_neg (by omega),if_pos (.inl ha)]) (by decide)) (by decide));subst hk;go_upto_region 10 with fail
     go_quiet (with_reducible exact Calls.quiet_of_same (g8.out _))
     go_wp2_with fail;exact HF.out _
    .
     by_cases gy:le<0
     .
      have HF:Hid (∀ q,Q (.returned (.int .i64 2)) (W.drewN q)):=Hd (fun q=>g1.out 2 _ (g0.out.trans ((Zaf W q).mono g0.out.size)) (HC.out 2 (by rw[HE.out,if_neg (by omega),if_pos (.inr ⟨hk,.inl gy⟩)]) (by decide)) (by decide));subst hk;go_upto_region 10 with fail
      go_quiet (with_reducible exact Calls.quiet_of_same (g8.out _))
      go_wp2_with fail;exact HF.out _
     .
      by_cases gc:le>=(n:Int)-1
      .
       have HF:Hid (∀ q,Q (.returned (.int .i64 2)) (W.drewN q)):=Hd (fun q=>g1.out 2 _ (g0.out.trans ((Zaf W q).mono g0.out.size)) (HC.out 2 (by rw[HE.out,if_neg (by omega),if_pos (.inr ⟨hk,.inr (by omega)⟩)]) (by decide)) (by decide));subst hk;go_upto_region 10 with fail
       go_quiet (with_reducible exact Calls.quiet_of_same (g8.out _))
       go_wp2_with fail;exact HF.out _
      .
       have gd:=Hd (HN.out (by rw[HE.out,if_neg (by omega),if_neg (by omega)]));subst hk;go_upto_region 10 with fail
       go_quiet (with_reducible exact Calls.quiet_of_same (g8.out _))
       have gp:=Hd (g0.out.trans ((Zaf W nq).mono g0.out.size));go_wp2_with fail;go_roundw
       case rel=>exact⟨i+1,Nat.succ_le_of_lt gi.out,by go_num,gp,gd⟩
       case measure =>
        have:=gi.out;simp[intOf];omega
   .
    have gA:¬ ki<1:=by omega
    have gK:¬ ki>3:=by omega
    have gJ:(ki == 2)=false:=by simp;omega
    by_cases ha:af<1
    .
     have HF:Hid (∀ q,Q (.returned (.int .i64 2)) (W.drewN q)):=Hd (fun q=>g1.out 2 _ (g0.out.trans ((Zaf W q).mono g0.out.size)) (HC.out 2 (by rw[HE.out,if_neg (by omega),if_pos (.inl ha)]) (by decide)) (by decide));clear hk;go_upto_region 10 with fail
     go_quiet (with_reducible exact Calls.quiet_of_same (g8.out _))
     go_wp2_with fail;exact HF.out _
    .
     have gd:=Hd (HN.out (by rw[HE.out,if_neg (by omega),if_neg (by omega)]));clear hk;go_upto_region 10 with fail
     go_quiet (with_reducible exact Calls.quiet_of_same (g8.out _))
     have gp:=Hd (g0.out.trans ((Zaf W nq).mono g0.out.size));go_wp2_with fail;go_roundw
     case rel=>exact⟨i+1,Nat.succ_le_of_lt gi.out,by go_num,gp,gd⟩
     case measure =>
      have:=gi.out;simp[intOf];omega
  .
   have he:i=l.length:=by omega
   have gB:¬ (i:Int)<l.length:=by omega
   have gd:Hid (P=0):=Hd (by rw[HP.out,he,List.drop_length];rfl);clear he;have hs':=HS.out.below HH.out.lt HB.out;have g3:=HH.out.lt.mono HB.out.size;have gq:m.waits.length+l.length<=1000:=by have:=HM.out;have:=gD.out;omega
   have go:Hid (∀ (cl:Int) (W:World) (hm:Zcg (K m.d V) o W mb { m with calls:=cl } s) (hl:Zal o W) (hc:Chg (fun _=>True) o o w W) (v':Value) (W':World) (o':Own),cl=(if m.waits=[] then 0 else m.calls)->Zb3 o' W' v' (m.waits++l)->Chg (· = .waits) o o' W W'->Zal o' W'->Q (.returned (.int .i64 0)) (W'.setCell ⟨mb,4,none⟩ v')):=Hd (by
    intro cl W hm hl hc v' W' o' gC hw gm gx;rw[HQ.out,<- gE.out,gd.out];have gw:=hm.setWaits hl hw gm;have gt:Chg (fun _=>True) o o' w (W'.setCell ⟨mb,4,none⟩ v'):=(hc.trans gm.any).setCell (p:=⟨mb,4,none⟩) (gm.ext _ _ hm.own) trivial _;exact⟨rfl,o',{ m with waits:=m.waits++l,calls:=cl },⟨⟨_,gw⟩,gx.mono (by simp[World.setCell]),⟨HH.out.ok.store,⟨HH.out.ok.handles.nodup,HH.out.ok.handles.zero,HH.out.ok.handles.one,HH.out.ok.handles.lt,HH.out.ok.handles.next,HH.out.ok.handles.ok,HH.out.ok.handles.len,HH.out.ok.handles.refs⟩⟩,HH.out.vars,HH.out.od,HH.out.room,HH.out.next,HH.out.hs,HH.out.chg.lower (ChgX.of_chg gt NoB) (fun _ e=>e.elim)⟩,rfl,gt,fun e=>(e rfl).elim,fun _=>⟨rfl,gC⟩⟩)
   have ge:=HI.out.below HB.out;clear c0 c1 c2 c3 c4 c5 f0;obtain⟨c0,c1,c2,c3,c4,c5,f0⟩:=cells6 hs'.blk
   by_cases hw0:m.waits=[]
   .
    have hz:m.waits.length=0:=by rw[hw0];rfl
    have HZ:=Hd hz;have g7:Zcg (K m.d V) o (wr.setCell ⟨mb,5,none⟩ (.int .i64 0)) mb { m with calls:=0 } s:=hs'.field rfl rfl rfl rfl rfl (hs'.waits) rfl;have gu:Chg (fun _=>True) o o w (wr.setCell ⟨mb,5,none⟩ (.int .i64 0)):=(Chg.of_below HB.out _ _).setCell (p:=⟨mb,5,none⟩) hs'.own trivial _;have gc:Zal o (wr.setCell ⟨mb,5,none⟩ (.int .i64 0)):=g3.mono (by simp[World.setCell])
    have gr:EvsAt (wr.setCell ⟨mb,5,none⟩ (.int .i64 0)) a l:=⟨ge.len,fun k hk=>by
     obtain⟨b,off,e,q0,q1,q2⟩:=ge.cells k hk;have gl:mb≠b:=by
      rintro rfl;have:=gF.out (by omega) _ e;have h2:=hs'.own;rw[h2] at this;cases this
     exact⟨b,off,e,Za5 q0 (.inl gl),Za5 q1 (.inl gl),Za5 q2 (.inl gl)⟩⟩
    obtain⟨v',w2,o2,g2,g4,g5,ga⟩:=Zjv (c:=c) g7.waits gc gr gq 37;obtain⟨av2,cv2,gk⟩:=g4.form;subst gk;have HF:=Hd (go.out 0 _ g7 gc gu _ w2 o2 (by rw[if_pos hw0]) g4 g5 ga);obtain⟨k0,k1,k2,k3,k4,k5,kf⟩:=cells6 g7.blk;have g6:=(g5.same gc g7.own (by simp)).trans g7.blk;obtain⟨j0,j1,j2,j3,j4,j5,jf⟩:=cells6 g6;rw[gv.out,hz] at c4 k4 g2;clear hs' g3 g7 gu gc gr g4 g5 ga ge hw0 g6 k0 k1 k2 k3 k5 kf;have gf:=Hd g2;clear g2;go_upto_region 15 with fail;go_wp2_with (refine Zlq rfl _ _ _ rfl rfl rfl gf.out ?_);have hq:=HF.out;rw[List.length_append,HZ.out,Nat.zero_add] at hq;exact hq
   .
    have hz:0<m.waits.length:=List.length_pos_iff.2 hw0;have gH:((m.waits.length:Int) == 0)=false:=by rw[beq_eq_false_iff_ne];omega
    obtain⟨v',w2,o2,g2,g4,g5,ga⟩:=Zjv (c:=c) hs'.waits g3 ge gq 37;obtain⟨av2,cv2,gk⟩:=g4.form;subst gk;have HF:=Hd (go.out m.calls _ hs' g3 (Chg.of_below HB.out _ _) _ w2 o2 (by rw[if_neg hw0]) g4 g5 ga);have g6:=(g5.same g3 hs'.own (by simp)).trans hs'.blk;obtain⟨j0,j1,j2,j3,j4,j5,jf⟩:=cells6 g6;rw[gv.out] at c4 g2;clear hs' g3 g4 g5 ga ge hw0 g6 hz;have gf:=Hd g2;clear g2;go_upto_region 15 with fail;go_wp2_with (refine Zlq rfl _ _ _ rfl rfl rfl gf.out ?_);have hq:=HF.out;rw[List.length_append] at hq;exact hq
end
open Go.RowKit
section
variable {K:Law}{n:Nat}{room:Nat}{w0:World}{mb:Nat}{fs hs:List (Int×BF)}{nx:Int}{W w w':World}{o o':Own}{m m':ManD}{V V':Nat->BF}{vl vx:Value}{ws0:List Ev}
theorem Zxd {n:Nat}(h:n<=16):2^n<=1000000:=Nat.le_trans (Nat.pow_le_pow_right (by omega) h) (by decide)
abbrev SufW (ws0:List Ev):List Ev->Int->Prop:=fun ws _=>ws <:+ ws0
end
open Go.RowKit
def Zcj (n:Nat):Nat:=4*2^(2*n)+192*2^n
theorem Zs3 (n:Nat)(hn:n<=8)(w:World):Calls prog 129 #[.int .i64 n,.int .i64 40] w fun x w'=>x=.returned (.int .i64 (Zcj n))/\w=w':=by
 have HB:Hid (∀ (z:Int) (k:Nat),z=k->k<=16->Calls prog 169 #[.int .i64 z] w fun x w'=>x=.returned (.int .i64 (2^k:Nat))/\w=w'):=Hd fun z k e hk=>by subst e;exact Zz2 k (by omega) w
 have hA:2^(2*n)<=65536:=Nat.le_trans (Nat.pow_le_pow_right (by omega) (show 2*n<=16 by omega)) (by decide);have hB:2^n<=65536:=Nat.le_trans (Nat.pow_le_pow_right (by omega) (show n<=16 by omega)) (by decide);have g0:=Hd (fun z e=>HB.out z (2*n) e (by omega));have HB2:=Hd (fun z e=>HB.out z n e (by omega));unfold Zcj;obtain⟨a,ha⟩:∃ a,a=2^(2*n):=⟨_,rfl⟩;obtain⟨b,hb⟩:∃ b,b=2^n:=⟨_,rfl⟩;rw[<- ha] at hA g0 ⊢;rw[<- hb] at hB HB2 ⊢;clear ha hb HB
 go_enter func129,ntmps129
 go_wp2_with fail;refine(g0.out _ (by omega)).mono ?_;rintro x w' ⟨rfl,rfl⟩;go_wp2_with fail;refine(HB2.out _ (by omega)).mono ?_;rintro x w' ⟨rfl,rfl⟩;go_wp2_with fail;go_ret;exact⟨by congr 2,rfl⟩
theorem Zt9 (n:Nat)(hn:n<=8)(w:World):Calls prog 71 #[.int .i64 n,.int .i64 40] w fun x w'=>x=.returned (.int .i64 (Zcj n))/\w=w':=by
 have HE:=Hd (Zs3 n hn w)
 go_enter func71,ntmps71
 go_wp2_with fail;refine HE.out.mono ?_;rintro x w' ⟨rfl,rfl⟩;go_wp2_with fail;go_ret;exact⟨rfl,rfl⟩
theorem Zwz {n:Nat}(hn:n<=6):1<=Zcj n/\Zcj n<=1048576:=by
 have h1:2^(2*n)<=4096:=Nat.le_trans (Nat.pow_le_pow_right (by omega) (show 2*n<=12 by omega)) (by decide);have h2:2^n<=64:=Nat.le_trans (Nat.pow_le_pow_right (by omega) hn) (by decide);have h3:0<2^n:=Nat.pow_pos (by omega);unfold Zcj;omega
theorem Zia {n k:Nat}(hk:k<=192):k*2^n<=Zcj n:=by
 have:=Nat.mul_le_mul_right (2^n) hk;unfold Zcj;omega
theorem Zua {n j s:Nat}(hn:1<=n)(hs:s<=40)(hj:j<5):2*2^n+j*(39*2^n+1)+s*2^n<=Zcj n:=by
 have h1:=Nat.mul_le_mul_right (2^n) hs;have h2:=Nat.mul_le_mul_right (39*2^n+1) (Nat.le_of_lt_succ hj);have h3:2^1<=2^n:=Nat.pow_le_pow_right (by omega) hn;have h4:2^(n+1)<=2^(2*n):=Nat.pow_le_pow_right (by omega) (by omega);rw[Nat.pow_succ] at h4;unfold Zcj;omega
theorem Zub {n j s k:Nat}(hs:s<=40)(h1:1<=s)(h:k<=2*2^n+j*(39*2^n+1)+Zh4 n s):k<=2*2^n+(j+1)*(39*2^n+1):=by
 have h2:=Zij n h1;have h3:=Nat.mul_le_mul_right (2^n) hs;rw[Nat.add_mul];have h4:0<2^n:=Nat.pow_pos (by omega);omega
theorem Zyo {n j k:Nat}(hj:j<=5)(h:k<=2*2^n+j*(39*2^n+1))(hn:2<=n):k+7<=Zcj n:=by
 have h2:=Nat.mul_le_mul_right (39*2^n+1) hj;have h3:2^2<=2^n:=Nat.pow_le_pow_right (by omega) hn;have h4:2^(n+2)<=2^(2*n):=Nat.pow_le_pow_right (by omega) (by omega);rw[Nat.pow_add] at h4;unfold Zcj;omega
def two:List (Int×BF):=[(0,fun _=>false),(1,fun _=>true)]
theorem Zzr:B2 two:=⟨by simp[two],by simp[two]⟩
theorem Zyf {K:Law}(n room:Nat)(w:World)(hn:n<=64)(h1:1<=room)(h2:room<=1048576) :
 Calls prog 43 #[.int .i64 n,.int .i64 room] w fun x w'=>∃ mb,x=.returned (.tuple #[.pointer (some ⟨mb,0,none⟩),.int .i64 0])/\∃ o m V,SatE K n (fun _=>True) room w mb two 2 w' o m V/\m.waits=[]/\m.calls=0/\m.d.pool.many=0:=by
 refine(Zwi (F:=K (man0 n room).d (fun _ _=>true)) (fun _=>none) n room w (fun k r h=>by cases h) hn h1 h2).mono ?_;rintro x w1 ⟨mb,o1,rfl,g0,g2,g1,_⟩;exact⟨mb,rfl,o1,man0 n room,fun _ _=>true,⟨g0,g1,Zv9 n room hn,by simp[man0,store0],trivial,by simp[man0,store0,pool0],rfl,by simp[man0,two,ef];constructor<;>rfl,ChgX.of_chg g2 NoB⟩,rfl,rfl,rfl⟩
def OrdP (zs:List Int)(l:List Nat):Prop:=∀ j,j<zs.length->((l.getD j 0:Nat):Int)=at0 zs j
def SetP (K:Law)(q:AskD)(n:Nat)(w:World)(y:Ending)(w':World):Prop :=
 ∃ mb vl vx wb hs nx,y=.returned (.tuple #[.pointer (some ⟨mb,0,none⟩),vl,vx,.bool true])/\Below w.heap.size w wb/\hs.map Prod.snd=q.es.map fnT/\nx<=1000/\∃ o m V,LawT K n (OrdP q.order) (Zcj n) wb mb (two++hs) nx (fun ws c=>ws=q.plan/\c=0) hs hs w' o m V vl vx/\(2<=n->m.d.pool.many+7<=Zcj n)
def SetI (K:Law)(q:AskD)(n:Nat)(wb:World)(mb:Nat)(j:Nat)(s8 s9:Value)(W:World):Prop :=
 ∃ hs nx,hs.map Prod.snd=(q.es.take j).map fnT/\nx<=2+120*(j:Int)/\∃ o m V,LawT K n (OrdP q.order) (Zcj n) wb mb (two++hs) nx (fun ws c=>ws=[]/\True) hs hs W o m V s8 s9/\m.d.pool.many<=2*2^n+j*(39*2^n+1)
theorem Zqe {K:Law}(hK:Zec K)(q:AskD)(ao ae ap:Option Addr)(co ce cp:Nat)(w:World)(h:AskAt w q ao ae ap)(hsm:Zhu q)(n:Nat)(hqn:q.vars=n) :
 Calls prog 20 #[askV q ao ae ap co ce cp] w (SetP K q n w):=by
 have hM:=hsm.lo;have hO:=hsm.hi;have hP:=hsm.es;have hL:=hsm.plan;have gL:=Hd hsm;have hr:=Hd h;have hu:n<=6:=by omega
 have hy:1<=n:=by omega
 have gD:=Zwz hu;obtain⟨Q,hQ⟩:∃ Q:Ending->World->Prop,Q=SetP K q n w:=⟨_,rfl⟩;rw[<- hQ];have HQ:=Hd hQ;obtain⟨w1,gg⟩:∃ w1,w1=w.alloc (.cells #[.int .i64 q.vars,.slice ao q.order.length co,.slice ae q.es.length ce,.slice ap q.plan.length cp] 39):=⟨_,rfl⟩;have HW1:Hid (_=w1):=Hd gg.symm;have hd:Hid (Below w.heap.size w w1):=by rw[gg];exact Hd (Zad _ _)
 have g0:w1.heap[w.heap.size]?=some (.cells #[.int .i64 q.vars,.slice ao q.order.length co,.slice ae q.es.length ce,.slice ap q.plan.length cp] 39 (0,0)):=by rw[gg];exact heap_alloc_new _ _
 have hs1:w1.heap.size=w.heap.size+1:=by rw[gg];simp
 have gP:=Hd hqn;rw[hqn] at g0 HW1;have d0:w1.cell? ⟨w.heap.size,0,none⟩=some (.int .i64 (n:Nat)):=by rw[cell_of_row _ _ 0 _ _ _ g0];rfl
 have d1:w1.cell? ⟨w.heap.size,1,none⟩=some (.slice ao q.order.length co):=by rw[cell_of_row _ _ 1 _ _ _ g0];rfl
 have d2:w1.cell? ⟨w.heap.size,2,none⟩=some (.slice ae q.es.length ce):=by rw[cell_of_row _ _ 2 _ _ _ g0];rfl
 have d3:w1.cell? ⟨w.heap.size,3,none⟩=some (.slice ap q.plan.length cp):=by rw[cell_of_row _ _ 3 _ _ _ g0];rfl
 have gZ:=hqn;unfold askV;rw[gZ];obtain⟨rm,gl⟩:∃ rm,rm=Zcj n:=⟨_,rfl⟩;have gM:=Hd gl;have gN:=Hd (fun W=>Zt9 n (by omega) W);rw[<- gl] at gN gD;clear h hsm hQ gg g0 gl hqn gZ;have gR:=Hd (Zyf (K:=K) n rm w1.drew (by omega) gD.1 gD.2)
 go_enter func20,ntmps20
 go_upto_region 1 with fail;rw[HW1.out];refine Zam (fun W:World=>W.cell? ⟨w.heap.size,0,none⟩=some (.int .i64 (n:Nat))/\True) false 11 [(0,false),(1,false),(2,false),(3,false),(4,true),(5,true),(6,false),(7,false),(8,false),(9,false),(10,false)] (by kernel_rfl) (by kernel_rfl) ⟨d0,trivial⟩ ?_;simp only[planned,Zcc]
 iterate 4
  refine Zaj rfl ?_;apply Exists.intro;refine⟨fun w' hw=>?_,?_⟩
  . obtain⟨h1,_⟩:=hw;go_simp;rfl
  simp only[Zae]
 refine Zb6 (R:=fun v w'=>v=.int .i64 (rm:Nat)/\w'=w1.drew) rfl (by go_simp) ((gN.out _).mono (fun e w' he=>?_)) ?_
 . obtain⟨rfl,rfl⟩:=he;exact⟨_,rfl,⟨d0,trivial⟩,rfl,rfl⟩
 rintro v w'-⟨rfl,rfl⟩;simp only[Zae];refine Zb6 (R:=fun v w'=>∃ mb,v=.tuple #[.pointer (some ⟨mb,0,none⟩),.int .i64 0]/\∃ o m V,SatE K n (fun _=>True) rm w1.drew mb two 2 w' o m V/\m.waits=[]/\m.calls=0/\m.d.pool.many=0) rfl (by go_simp) (gR.out.mono (fun e w' he=>?_)) ?_
 . obtain⟨mb,rfl,o,m,V,g5,gU⟩:=he;exact⟨_,rfl,⟨(g5.chg.below0.cell (p:=⟨w.heap.size,0,none⟩) (Zaa (w:=w1.drew) d0)).trans d0,trivial⟩,mb,rfl,o,m,V,g5,gU⟩
 rintro v w2-⟨mb,rfl,o,m,V,g5,gV,hD,h2⟩;simp only[Zae]
 iterate 5
  refine Zaj rfl ?_;apply Exists.intro;refine⟨fun w' hw=>?_,?_⟩
  . obtain⟨h1,_⟩:=hw;go_simp;rfl
  simp only[Zae]
 refine Zb8 ?_;obtain⟨wb,g7⟩:∃ wb,wb=w1.drew:=⟨_,rfl⟩;rw[<- g7] at g5;have hb:Hid (Below w.heap.size w wb):=Hd (by rw[g7];exact hd.out.trans ((Zaf w1 1).mono hd.out.size));have c0:wb.cell? ⟨w.heap.size,0,none⟩=some (.int .i64 (n:Nat)):=by rw[g7];exact d0
 have c1:wb.cell? ⟨w.heap.size,1,none⟩=some (.slice ao q.order.length co):=by rw[g7];exact d1
 have c2:wb.cell? ⟨w.heap.size,2,none⟩=some (.slice ae q.es.length ce):=by rw[g7];exact d2
 have c3:wb.cell? ⟨w.heap.size,3,none⟩=some (.slice ap q.plan.length cp):=by rw[g7];exact d3
 have hR:w.heap.size<wb.heap.size:=Zaa c0;have gj:=Hd (hr.out.below hb.out);clear g7 gR gN d0 d1 d2 d3 HW1 hs1
 have gT:=Hd (Zqr (K:=K) g5 (by omega) (by rw[gM.out];have:=Zia (n:=n) (k:=6) (by omega);simp[two];omega) (c:=co) (gj.out.order.below g5.chg.below0) (fun h0 x hx=>by
  obtain⟨b,off,e,hc⟩:=gj.out.order.cells 0 h0;rw[hx] at e;cases e;exact g5.none0 (Zaa hc)) (by
  rcases Nat.eq_zero_or_pos q.order.length with h0|h0
  . exact .inl h0
  . have:=gL.out.order h0;rw[gP.out] at this;exact .inr (Znu this)))
 have e0:=(g5.chg.below0.cell (p:=⟨w.heap.size,0,none⟩) (Zaa c0)).trans c0;have e1:=(g5.chg.below0.cell (p:=⟨w.heap.size,1,none⟩) (Zaa c1)).trans c1;have HWT:=Hd gV;have hI:=Hd h2;clear g5 gV hD h2;go_wp2_with fail;refine gT.out.mono ?_;rintro y w3 ⟨rfl,o3,m3,V3,gc,gy,hn,hE,gF⟩;have ha:Hid (SetI K q n wb mb 0 (.slice none 0 0) (.slice none 0 0) w3):=Hd ⟨[],2,rfl,by omega,o3,m3,V3,⟨by rw[gM.out] at gc;exact gc,Zzr,⟨by rw[gy,HWT.out],trivial⟩,⟨Zns _ _ _,fun k hk=>by cases hk⟩,⟨⟨[],rfl,Zns _ _ _,fun i v hv=>by simp at hv⟩,fun k hk=>by cases hk⟩⟩,by have:=hI.out;simp[two] at gF;omega⟩;have f2:=(gc.chg.below0.cell (p:=⟨w.heap.size,2,none⟩) (Zaa c2)).trans c2;clear gc gy hn hE gF gT e0 e1;go_wp2_with fail
 go_loopw [8,9,40] (fun s8 s9 s40 wr=>∃ j:Nat,j<=q.es.length/\s40=.int .i64 j/\Hid (SetI K q n wb mb j s8 s9 wr)) (fun _ _ s40 _=>q.es.length-(intOf s40).toNat)
 case atStart=>exact⟨0,Nat.zero_le _,rfl,ha⟩
 case round =>
  clear ha f2
  rename World=>wy
  obtain⟨j,hj,rfl,HI⟩:=hrel;obtain⟨hs,nx,gk,hnx,hz⟩:=HI.out;obtain⟨o0,m0,V0,gm,gG⟩:=hz;have gw:Hid (∃ o m V,LawT K n (OrdP q.order) (Zcj n) wb mb (two++hs) nx (fun ws c=>ws=[]/\True) hs hs wy o m V u8 u9/\m.d.pool.many<=2*2^n+j*(39*2^n+1)):=Hd ⟨o0,m0,V0,gm,gG⟩;have gI:=gm.below0;have hq:=Hd gI;have gK:=Hd gk;have hC:hs.length=j:=by have:=congrArg List.length gk;simpa [Nat.min_eq_left hj] using this
  clear HI gk gm gG gI o0 m0 V0
  by_cases gH:j<q.es.length
  .
   have hA:(j:Int)<q.es.length:=by omega
   have gv:=hq.out;obtain⟨b,off,x0,x1,x2,ea,k0,k1,k2,hx⟩:=gj.out.es.cells j gH;subst ea;obtain⟨zo,zv,za,zn,zc,rfl,rfl,rfl⟩:=hx.parts;have gi:=Hd (gL.out.expr _ (List.getElem_mem gH));have ga:=gi.out.1;have gz:=ExT.size_pos q.es[j];obtain⟨e,he⟩:∃ e,e=q.es[j]:=⟨_,rfl⟩;rw[<- he] at hx gi ga gz;have HX:=Hd hx;have q0:=(gv.cell (p:=⟨b,off+j*3,none⟩) (Zaa k0)).trans k0;have q1:=(gv.cell (p:=⟨b,off+j*3+1,none⟩) (Zaa k1)).trans k1;have q2:=(gv.cell (p:=⟨b,off+j*3+2,none⟩) (Zaa k2)).trans k2;have hH:Hid ((q.es.take (j+1)).map fnT=(q.es.take j).map fnT++[fnT e]):=Hd (by rw[List.take_succ_eq_append_getElem gH,List.map_append,he];rfl);obtain⟨wz,gp⟩:∃ wz,wz=wy.alloc (.cells #[.int .i64 zo,.int .i64 zv,.slice za zn zc] 81):=⟨_,rfl⟩;have hF:Hid (_=wz):=Hd gp.symm;have h5:Below wy.heap.size wy wz:=by rw[gp];exact Zad _ _
   have g0:wz.heap[wy.heap.size]?=some (.cells #[.int .i64 zo,.int .i64 zv,.slice za zn zc] 81 (0,0)):=by rw[gp];exact heap_alloc_new _ _
   have p0:wz.cell? ⟨wy.heap.size,0,none⟩=some (.int .i64 zo):=by rw[cell_of_row _ _ 0 _ _ _ g0];rfl
   have p1:wz.cell? ⟨wy.heap.size,1,none⟩=some (.int .i64 zv):=by rw[cell_of_row _ _ 1 _ _ _ g0];rfl
   have p2:wz.cell? ⟨wy.heap.size,2,none⟩=some (.slice za zn zc):=by rw[cell_of_row _ _ 2 _ _ _ g0];rfl
   obtain⟨o4,m4,V4,lt0,mn4⟩:=gw.out;have lt4:=lt0.below h5;have n4:o4 wy.heap.size=none:=lt0.sat.lt.none (Nat.le_refl _);have h3:∀ g,u8.ownBlock=some g->g<wy.heap.size:=fun g hg=>(lt0.l.own.lt g hg).2
   have hN:(two++hs).length=2+j:=by simp[two,hC];omega
   have gx:=Hd (Zom hK e _ (two++hs) nx wz o4 m4 V4 _ lt4.sat ⟨lt4.st.1,mn4⟩ lt4.b2 gi.out.2.1.valid (by have:=gi.out.2.2;rw[gP.out] at this;exact this) hx (by omega) (Zua hy ga (by omega)));have g8:=Hd lt4;clear gv k0 k1 k2 hx h5 g0 gp lt4 gw he lt0;go_upto_region 9 with fail;rw[hF.out];clear q0 q1 q2;go_wp2_with fail;refine gx.out.mono ?_;rintro y w5 ⟨k,rfl,hk,o5,m5,V5,g9,⟨gY,gE⟩,gA⟩;have ho:Hid (m5.d.pool.many<=2*2^n+(j+1)*(39*2^n+1)):=Hd (Zub ga gz gE);have gn:Hid (LawT K n (OrdP q.order) (Zcj n) wb mb (two++(hs++[(k,fnT e)])) (k+1) (fun ws c=>ws=[]/\True) hs hs w5 o5 m5 V5 u8 u9):=Hd (g8.out.go (by rw[<- List.append_assoc];exact gA) (Zzr.app _) ⟨gY,trivial⟩ g9);have r0:=g9.cell (p:=⟨wy.heap.size,0,none⟩) p0 n4 (fun e=>e);have r1:=g9.cell (p:=⟨wy.heap.size,1,none⟩) p1 n4 (fun e=>e);have r2:=g9.cell (p:=⟨wy.heap.size,2,none⟩) p2 n4 (fun e=>e);have n5:=g9.none' (Zaa p0) n4;have hh:wb.heap.size<=w5.heap.size:=gA.chg.size;clear g9 gY gA gE gx p0 p1 p2 g8;go_upto_region 13 with (at_builtin;refine Zby Zm9 _ rfl _ _ rfl wb.heap.size _ (Zbh (hs.map Prod.fst)) _ rfl rfl rfl rfl rfl (by exact gn.out.l.own) (by simp[Zbh];omega) hh ?_;intro v6 w6 gt g1 g2 g3 g4 gJ)
   have gX:=Zst g1 g2 g3 g4 gJ;have ge:w6.heap[wy.heap.size]?=w5.heap[wy.heap.size]?:=gX.keep _ (Zaa r0) (fun e=>by have:=h3 _ e;omega);have t0:=(World.cell?_of_block (w:=w5) (a:=⟨wy.heap.size,0,none⟩) ge).trans r0;have t1:=(World.cell?_of_block (w:=w5) (a:=⟨wy.heap.size,1,none⟩) ge).trans r1;have t2:=(World.cell?_of_block (w:=w5) (a:=⟨wy.heap.size,2,none⟩) ge).trans r2;have g6:=Hd (gn.out.appL gt g1 g2 g3 g4 gJ (p:=(k,fnT e)));have a0:=(g6.out.below0.cell (p:=⟨w.heap.size,0,none⟩) (Zaa c0)).trans c0;have h7:=Hd (Zlz e _ n (by omega) w6 (by omega) gi.out.2.1 (HX.out.below g6.out.below0));clear gX ge gt g1 g2 g3 g4 gJ r0 r1 r2 gn h3;go_wp2_with fail;refine h7.out.mono ?_;rintro y w7 ⟨v7,rfl,gd,h6⟩;obtain⟨av,cv,rfl,_⟩:=gd.slice;have h9:Hid (LawB w7 o5 wb.heap.size (.slice av (Zbv (tabB n (fnT e))).length cv) (tabB n (fnT e))):=Hd (Zx7 (n:=n) gd (by rw[Zif];exact Zxd (by omega)) g6.out.sat.lt g6.out.sat.chg.size);have gf:=Hd (g6.out.below h6);obtain⟨rs,hm,gC,gB⟩:=gf.out.x.ex;have gO:=Hd gC;have h8:=Hd gB;have ht:rs.length=hs.length:=by rw[hm];simp
   have hf:wb.heap.size<=w7.heap.size:=gf.out.sat.chg.size;clear gd h6 gC gB h7 g6 t0 t1 t2 a0;go_upto_region 14 with (at_builtin;refine Zby Yab _ rfl _ _ rfl wb.heap.size _ rs _ rfl rfl rfl rfl rfl (by exact gO.out) (by omega) hf ?_;intro v8 w8 gr g1 g2 g3 g4 h4)
   have gS:=Hd (gf.out.appX h9.out rfl ht gO.out h8.out gr g1 g2 g3 g4 h4 (p:=(k,fnT e)));have hJ:Hid (SetI K q n wb mb (j+1) v6 v8 w8):=Hd ⟨hs++[(k,fnT e)],k+1,by rw[List.map_append,gK.out,hH.out];rfl,by omega,o5,m5,V5,gS.out,ho.out⟩;clear gr g1 g2 g3 g4 h4 gO h8 gf h9 gS;go_wp2_with fail;go_roundw
   case rel=>exact⟨j+1,by omega,by go_num,hJ⟩
   case measure=>simp[intOf];omega
  .
   have hB:j=q.es.length:=by omega
   have hA:¬ (j:Int)<q.es.length:=by omega
   obtain⟨o4,m4,V4,lt4,mn4⟩:=gw.out;have hp:=Hd mn4;clear mn4;have e3:=(lt4.below0.cell (p:=⟨w.heap.size,3,none⟩) (Zaa c3)).trans c3;have gq:m4.waits=[]:=lt4.st.1;have gu:Ze9 n m4.waits.length q.plan=0:=by
    rw[gq];have:=gL.out.planOk;rw[gP.out] at this;exact this
   have gQ:=Hd (Zrc lt4.sat (c:=cp) (gj.out.plan.below lt4.below0) (fun h0 x hx=>by
    obtain⟨b,off,e,hc,_⟩:=gj.out.plan.cells 0 h0;rw[hx] at e;cases e;exact lt4.sat.none0 (Zaa hc)) (by rw[gq];simp))
   rw[gu] at gQ;have g8:=Hd lt4;have hG:=Hd gq;clear lt4 gq gu gw;go_wp2_with fail;refine gQ.out.mono ?_;rintro y w5 ⟨rfl,o5,m5,gh⟩
   have HF:Hid (Q (.returned (.tuple #[.pointer (some ⟨mb,0,none⟩),u8,u9,.bool true])) w5):=Hd (by
    rw[HQ.out];refine⟨mb,u8,u9,wb,hs,nx,rfl,hb.out,by rw[gK.out,hB,List.take_length],by omega,o5,m5,V4,g8.out.go gh.sat g8.out.b2 ?_ (ChgX.of_chg gh.chg NoB),?_⟩
    rotate_left
    . rw[gh.d];exact Zyo (by omega) hp.out
    have:=gh.yes rfl;rw[hG.out] at this;exact⟨by simpa using this.1,by simpa using this.2⟩)
   clear gh gQ;go_wp2_with fail;refine bodyPost_ret (Zc1 rfl _ _ _) rfl ?_;exact HF.out
open Go.RowKit
end Go.Proofs.YtkbegdkpboklpaaGreat

namespace Go.Proofs.YtkbegdkpboklpaaGreat
open Go.Proofs.Tryz
open Go.RowKit
open Go.RowKit
end Go.Proofs.YtkbegdkpboklpaaGreat

namespace Go.Proofs.YtkbegdkpboklpaaGreat
open Go.Proofs.Tryz
open Go.RowKit
open Go.RowKit
end Go.Proofs.YtkbegdkpboklpaaGreat

namespace Go.Proofs.YtkbegdkpboklpaaGreat
open Go.Proofs.Tryz
open Go.RowKit
open Go.RowKit
open Go.RowKit
open Go.RowKit
open Go.RowKit
open Go.RowKit
open Go.RowKit
open Go.RowKit
def Zf1 (B:World->Own->Prop):Prop:=∀ W o W' o',B W o->ChgX NoB o o' W W'->B W' o'
theorem NoB.sub {C:Nat->Prop}{s:Nat}:∀ k,k<s->NoB k->C k:=fun _ _ e=>e.elim
open Go.RowKit
open Go.RowKit
open Go.RowKit
open Go.RowKit
open Go.RowKit
open Go.RowKit
open Go.RowKit
open Go.RowKit
open Go.RowKit
section
variable {K:Law}{n room L:Nat}{Od:List Nat->Prop}{w0 w wb W:World}{mb g:Nat}{fs bs r:List (Int×BF)}{nx:Int}{o o0:Own}{m:ManD}{V:Nat->BF}{ws0:List Ev}{C:Nat->Prop}{B:Nat->World->Own->Prop}{lop:Array Value}{Φ:BF->BF}{er:Nat->Int}{c:Int}
theorem Zf1.and {A B:World->Own->Prop}(hA:Zf1 A)(hB:Zf1 B):Zf1 fun W o=>A W o/\B W o:=fun _ _ _ _ h hc=>⟨hA _ _ _ _ h.1 hc,hB _ _ _ _ h.2 hc⟩
end
open Go.RowKit
def FxO (K:Law)(n room:Nat)(w0:World)(mb:Nat)(ws0:List Ev)(C:Nat->Prop)(o0:Own)(wb:World)(B:World->Own->Prop)(P:List Nat->Prop)(fs:List (Int×BF))(nx:Int)(W:World):Prop :=
 ∃ o m V,ChgX C o0 o wb W/\m.waits <:+ ws0/\SatE K n P room w0 mb fs nx W o m V/\B W o
def Zdw (v:Value)(zs:List Int):World->Own->Prop:=fun W o=>SliceIs W v zs/\(∀ k,v.ownBlock=some k->k<W.heap.size/\o k=none)
theorem Zdw.keep {v:Value}{zs:List Int}:Zf1 (Zdw v zs):=fun W o W' o' h hc =>
 ⟨h.1.same fun k hk=>hc.block k (h.2 k hk).1 (h.2 k hk).2 (fun e=>e),fun k hk=>⟨Nat.lt_of_lt_of_le (h.2 k hk).1 hc.size,hc.none' (h.2 k hk).1 (h.2 k hk).2⟩⟩
theorem Zdw.slice {v:Value}{zs:List Int}{W:World}{o:Own}(h:Zdw v zs W o):SliceIs W v zs:=h.1
theorem Zr3 (f:Int->Int):∀ zs:List Int,invs f zs<=zs.length*zs.length
 | []=>by simp[invs]
 | x::xs=>by
   have h1:=Zr3 f xs;have h2:=List.countP_le_length (p:=fun y=>decide (f x>f y)) (l:=xs);simp only[invs,List.length_cons];have:(xs.length+1)*(xs.length+1)=xs.length*xs.length+2*xs.length+1:=by rw[Nat.add_mul,Nat.mul_add];omega
   omega
theorem Zvj {l:List Nat}{k:Nat}(h:k+1<l.length):(exL l k).map Int.ofNat=Zef (l.map Int.ofNat) (k:Int):=by
 have hl:((exL l k).map Int.ofNat).length=(Zef (l.map Int.ofNat) (k:Int)).length:=by rw[Zeb,List.length_map,List.length_map,Zmi]
 refine Zex hl fun j hj=>?_
 have g0:j<(exL l k).length:=by simpa using hj
 have g1:j<l.length:=by rw[Zmi] at g0;exact g0
 rw[Zfj g0,Zgs (by rw[List.length_map];exact h)];split
 .
  rename_i e
  subst e;rw[Zrx h,Zfj h]
 .
  split
  .
   rename_i e
   subst e;rw[Zxx h,Zfj (by omega)]
  .
   rename_i h1 h2
   rw[Zzg h1 h2,Zfj g1]
theorem Zl1 {zs:List Int}{n:Nat}(h:Zxn zs n):Za1 zs=true:=by
 have hl:=h.len;rw[Zbq];refine⟨fun k hk=>?_,fun i hi k hk e=>?_⟩
 . obtain⟨v,hv,e⟩:=h.lt k (by omega);rw[e];omega
 . have:=h.inj k i (by omega) (by omega) e;omega
section
variable {K:Law}{n room:Nat}{w0 w W w' wb:World}{mb:Nat}{fs r:List (Int×BF)}{nx:Int}{o0:Own}{ws0:List Ev}{C:Nat->Prop}{B:World->Own->Prop}{P P':List Nat->Prop}
theorem FxO.below (hB:Zf1 B)(h:FxO K n room w0 mb ws0 C o0 wb B P fs nx W)(hb:Below W.heap.size W w'):FxO K n room w0 mb ws0 C o0 wb B P fs nx w':=by
 obtain⟨o,m,V,h1,h2,h3,h4⟩:=h;exact⟨o,m,V,h1.trans (ChgX.of_below hb o NoB) NoB.sub,h2,h3.below hb,hB _ _ _ _ h4 (ChgX.of_below hb o NoB)⟩
theorem FxO.withB {B':World->Own->Prop}(h:FxO K n room w0 mb ws0 C o0 wb B P fs nx W)(hB:∀ o m V,SatE K n P room w0 mb fs nx W o m V->B W o->B' W o):FxO K n room w0 mb ws0 C o0 wb B' P fs nx W:=by
 obtain⟨o,m,V,h1,h2,h3,h4⟩:=h;exact⟨o,m,V,h1,h2,h3,hB _ _ _ h3 h4⟩
theorem FxO.imp (h:FxO K n room w0 mb ws0 C o0 wb B P fs nx W)(hP:∀ l,l.length=n->P l->P' l):FxO K n room w0 mb ws0 C o0 wb B P' fs nx W:=by
 obtain⟨o,m,V,h1,h2,h3,h4⟩:=h;exact⟨o,m,V,h1,h2,h3.withOd (hP _ h3.vars h3.od),h4⟩
theorem FxO.ask {f:Nat}{args:Array Value}{R:Ending->World->Prop}(h:FxO K n room w0 mb ws0 C o0 wb B P fs nx W)(hc:∀ o m V,SatE K n P room w0 mb fs nx W o m V->B W o->Calls prog f args W R):Calls prog f args W R:=by
 obtain⟨o,m,V,_,_,h3,h4⟩:=h;exact hc o m V h3 h4
theorem FxO.below0 (h:FxO K n room w0 mb ws0 C o0 wb B P fs nx W):Below w0.heap.size w0 W:=by
 obtain⟨o,m,V,_,_,h3,_⟩:=h;exact h3.chg.below0
theorem FxO.know (h:FxO K n room w0 mb ws0 C o0 wb B P fs nx W){Q:World->Prop}(hq:∀ W o,B W o->Q W):Q W:=by
 obtain⟨o,m,V,_,_,h3,h4⟩:=h;exact hq _ _ h4
theorem FxO.mine (hB:Zf1 B)(h:FxO K n room w0 mb ws0 C o0 wb B P fs nx W)(hb:Below W.heap.size W w'){v:Value}{zs:List Int}(hv:SliceIs w' v zs)(hk:∀ k,v.ownBlock=some k->W.heap.size<=k/\k<w'.heap.size):FxO K n room w0 mb ws0 C o0 wb (fun W o=>B W o/\Zdw v zs W o) P fs nx w':=by
 obtain⟨o,m,V,h1,h2,h3,h4⟩:=h;exact⟨o,m,V,h1.trans (ChgX.of_below hb o NoB) NoB.sub,h2,h3.below hb,hB _ _ _ _ h4 (ChgX.of_below hb o NoB),hv,fun k g0=>⟨(hk k g0).2,h3.lt.none (hk k g0).1⟩⟩
theorem FxO.order (hB:Zf1 B)(h:FxO K n room w0 mb ws0 C o0 wb B P fs nx W) :
 Calls prog 25 #[.pointer (some ⟨mb,0,none⟩)] W fun x w'=>∃ (v:Value) (l:List Nat),x=.returned v/\l.length=n/\P l/\Za1 (l.map Int.ofNat)=true/\OwnI w' W.heap.size v (l.map Int.ofNat)/\FxO K n room w0 mb ws0 C o0 wb (fun W o=>B W o/\Zdw v (l.map Int.ofNat) W o) (fun l'=>l'=l) fs nx w'/\Below W.heap.size W w':=by
 obtain⟨o,m,V,h1,h2,h3,h4⟩:=h;have hn64:n<=64:=by have:=h3.ok.store.small;rw[h3.vars] at this;exact this
 refine(Zjq h3.is h3.lt (by rw[h3.vars];exact hn64)).mono ?_;rintro x w' ⟨v,rfl,hv,hb⟩;have hp:=h3.ok.store.permB;have hc:=ChgX.of_below hb o NoB;refine⟨v,m.d.vars,rfl,h3.vars,h3.od,Zl1 (Znu hp),hv,⟨o,m,V,h1.trans hc NoB.sub,h2,(h3.below hb).withOd rfl,hB _ _ _ _ h4 hc,hv.sliceIs (by rw[List.length_map,h3.vars];omega),fun k hk=>?_⟩,hb⟩;have:=hv.lt k hk;exact⟨this.2,h3.lt.none this.1⟩
theorem FxO.vars (h:FxO K n room w0 mb ws0 C o0 wb B P fs nx W):Calls prog 58 #[.pointer (some ⟨mb,0,none⟩)] W fun x w'=>x=.returned (.int .i64 n)/\W=w' :=
 h.ask fun _ _ _ hs _=>hs.vars_any
theorem FxO.swap (hB:Zf1 B)(h:FxO K n room w0 mb ws0 C o0 wb B P fs nx W){k:Nat}(hk1:k+1<n)(hn:nx<=549755813888)(hr:3*(fs.length*2^n)<=room)(hP:∀ l,l.length=n->P l->P' (exL l k)) :
 Calls prog 130 #[.pointer (some ⟨mb,0,none⟩),.int .i64 k] W fun e w'=>e=.returned (.int .i64 0)/\FxO K n room w0 mb ws0 C o0 wb B P' fs nx w':=by
 obtain⟨o,m,V,h1,h2,h3,h4⟩:=h;refine(Zmo h3 hk1 hn hr).mono ?_;rintro e w' ⟨rfl,o2,m2,V2,s⟩;have hc:=ChgX.of_chg s.chg NoB;refine⟨rfl,o2,m2,V2,h1.trans hc NoB.sub,by rw[s.waits];exact h2,s.sat.withOd ?_,hB _ _ _ _ h4 hc⟩;rw[s.sat.od,Zql];exact hP _ h3.vars h3.od
end
open Go.RowKit
structure SlsD (D:Nat->Prop)(W:World)(v:Value)(gs:List (List Int)):Prop where
 ex:∃ a c xs,v=.slice a gs.length c/\(a=none->c=0)/\gs.length<=9223372036854775807/\Zdx W xs gs/\(∀ i (_:i<xs.length),∃ b off,a=some ⟨b,off,none⟩/\W.cell? ⟨b,off+i,none⟩=some xs[i])/\∀ x∈xs,∀ k,x.ownBlock=some k->D k
 own:∀ k,v.ownBlock=some k->D k
theorem SlsD.is {D:Nat->Prop}{W:World}{v:Value}{gs:List (List Int)}(h:SlsD D W v gs):Zco W v gs:=by
 obtain⟨a,c,xs,h1,h2,h3,h4,h5,_⟩:=h.ex;exact⟨a,c,xs,h1,h2,h3,h4,h5⟩
theorem SlsD.same {D:Nat->Prop}{W W':World}{v:Value}{gs:List (List Int)}(h:SlsD D W v gs)(hk:∀ k,D k->W'.heap[k]?=W.heap[k]?):SlsD D W' v gs:=by
 obtain⟨a,c,xs,h1,h2,h3,h4,h5,h6⟩:=h.ex;refine⟨⟨a,c,xs,h1,h2,h3,h4.same fun x hx k e=>hk k (h6 x hx k e),fun i hi=>?_,h6⟩,h.own⟩;obtain⟨b,off,rfl,hc⟩:=h5 i hi;exact⟨b,off,rfl,(World.cell?_of_block (w:=W) (a:=⟨b,off+i,none⟩) (hk b (h.own b (by rw[h1];rfl)))).trans hc⟩
def SlsB (v:Value)(gs:List (List Int)):World->Own->Prop:=fun W o=>∃ D:Nat->Prop,SlsD D W v gs/\∀ k,D k->k<W.heap.size/\o k=none
theorem SlsB.keep {v:Value}{gs:List (List Int)}:Zf1 (SlsB v gs):=fun W o W' o' ⟨D,h1,h2⟩ hc =>
 ⟨D,h1.same fun k hk=>hc.block k (h2 k hk).1 (h2 k hk).2 (fun e=>e),fun k hk=>⟨Nat.lt_of_lt_of_le (h2 k hk).1 hc.size,hc.none' (h2 k hk).1 (h2 k hk).2⟩⟩
theorem SlsB.is {v:Value}{gs:List (List Int)}{W:World}{o:Own}(h:SlsB v gs W o):Zco W v gs:=by obtain⟨D,h1,_⟩:=h;exact h1.is
def GrB (mb gb:Nat)(lv:Value)(gs:List (List Int)):World->Own->Prop:=fun W o=>(W.heap[gb]?=some (.cells #[.pointer (some ⟨mb,0,none⟩),lv] 111 (0,0))/\o gb=none)/\SlsB lv gs W o
theorem GrB.keep {mb gb:Nat}{lv:Value}{gs:List (List Int)}:Zf1 (GrB mb gb lv gs):=fun W o W' o' h hc =>
 ⟨⟨(hc.block gb (Array.getElem?_eq_some_iff.1 h.1.1).1 h.1.2 (fun e=>e)).trans h.1.1,hc.none' (Array.getElem?_eq_some_iff.1 h.1.1).1 h.1.2⟩,SlsB.keep _ _ _ _ h.2 hc⟩
theorem GrM.toB {base mb gb:Nat}{lv:Value}{gs:List (List Int)}{W:World}{o:Own}(h:GrM base mb gb lv gs W)(hl:gs.length<=9223372036854775807)(ho:∀ k,base<=k->o k=none):GrB mb gb lv gs W o:=by
 obtain⟨xs,h1,h2,h3⟩:=h.row;refine⟨⟨h.blk,ho gb h.lo⟩,fun k=>base<=k/\k<W.heap.size,⟨?_,fun k hk=>h1.lt k hk⟩,fun k hk=>⟨hk.2,ho k hk.1⟩⟩;obtain⟨a,c,xs',e,hn,g1,hs',g2⟩:=Zco.of_own h1 h2 hl;obtain⟨a2,c2,e2,g0⟩:=h1.slice;rw[h2.len] at e2;refine⟨a2,c2,xs,e2,g0,hl,h2,fun i hi=>?_,fun x hx k hk=>h3 x hx k hk⟩;obtain⟨g,cap,e3,_,_⟩:=h1.shape (by omega);rw[e2] at e3;injection e3 with e3 _ _
 subst e3;rw[e2] at h1;refine⟨g,0,rfl,?_⟩;rw[Nat.zero_add,h1.cell i hi];simp[hi]
section
variable {K:Law}{n room:Nat}{w0 w W w' wb:World}{mb gb:Nat}{fs r:List (Int×BF)}{nx:Int}{o0:Own}{ws0:List Ev}{C:Nat->Prop}{B:World->Own->Prop}{P P':List Nat->Prop}{lv v:Value}{gs:List (List Int)}
theorem Zio {o:Own}(h:GrB mb gb lv gs W o):Calls prog 15 #[.pointer (some ⟨gb,0,none⟩)] W fun x w'=>x=.returned lv/\W=w':=by
 obtain⟨q0,q1,fz⟩:=cells2 h.1.1;obtain⟨a,c,rfl,_⟩:=h.2.is.slice;clear h
 go_enter func15,ntmps15
 go_wp2_with fail;go_ret;exact⟨rfl,rfl⟩
theorem Zni (W:World):Calls prog 15 #[.pointer none] W fun x w'=>x=.returned (.slice none 0 0)/\W=w':=by
 go_enter func15,ntmps15
 go_wp2_with fail;go_ret;exact⟨rfl,rfl⟩
theorem Znh (W:World)(v:Value):Calls prog 16 #[.pointer none,v] W fun x w'=>x=.returned (.bool false)/\W=w':=by
 go_enter func16,ntmps16
 go_wp2_with fail;go_ret;exact⟨rfl,rfl⟩
theorem Zkx (W:World):Calls prog 17 #[.pointer none] W fun x w'=>x=.returned (.int .i64 5)/\W=w':=by
 go_enter func17,ntmps17
 go_wp2_with fail;go_ret;exact⟨rfl,rfl⟩
theorem Zo5 (W:World)(v:Value):Calls prog 12 #[.pointer none,v] W fun x w'=>x=.returned (.tuple #[.pointer none,.int .i64 5])/\W=w':=by
 go_enter func12,ntmps12
 go_wp2_with fail;refine bodyPost_ret (results_tmp2 rfl _ _ _) rfl ?_;exact⟨rfl,rfl⟩
theorem Znj (W:World)(grow:Int)(a:Option Addr)(l c:Nat):Calls prog 14 #[.pointer none,.int .i64 grow,.slice a l c] W fun x w'=>x=.returned (.tuple #[.int .i64 0,.int .i64 5])/\Below W.heap.size W w':=by
 obtain⟨w1,g0⟩:∃ w,w=(W.alloc (.cells #[.pointer none] 24)).alloc (.cells #[.slice a l c] 23):=⟨_,rfl⟩;have HW1:Hid (_=w1):=Hd g0.symm;have HB:Hid (Below W.heap.size W w1):=Hd (by rw[g0];exact(Zad _ _).alloc (by simp) _);have c0:w1.cell? ⟨W.heap.size,0,none⟩=some (.pointer none):=by
  rw[g0];exact((Zad (W.alloc (.cells #[.pointer none] 24)) _).cell (p:=⟨W.heap.size,0,none⟩) (by simp)).trans (by rw[cell_of_row _ _ 0 _ _ _ (heap_alloc_new W _)];rfl)
 clear g0
 go_enter func14,ntmps14
 go_upto_region 1 with fail;rw[HW1.out];go_wp2_with fail;refine bodyPost_ret (results_tmp2 rfl _ _ _) rfl ?_;exact⟨rfl,HB.out⟩
end
open Go.RowKit
theorem Zg5 (a:Option Addr)(c:Nat)(zs:List Int)(w:World)(h:Za4 w a zs)(hlen:zs.length<1000000) :
 Calls prog 63 #[.slice a zs.length c] w fun e w'=>∃ v,e=.returned v/\SliceIs w' v (Zel zs)/\Below w.heap.size w w':=by
 have HI:=Hd h;clear h
 by_cases hr:Za1 zs=true
 .
  have HR:=Hd hr;have g1:=((Zbq zs).1 hr).1;have gc:=Hd g1;clear hr g1
  go_enter func63,ntmps63
  go_wp2_with fail;refine(Zbj _ _ zs _ HI.out hlen).mono ?_;rintro e w1 ⟨rfl,g3⟩;rw[HR.out];have hs1:=g3.size;go_wp2_with (at_make;refine Zjx rfl _ _ rfl w.heap.size w _ zs.length rfl rfl rfl (by omega) hs1 g3 ?_;intro g w2 g6 g8 gh gi g9);have gj:=Hd (HI.out.below g8);have g5:OwnI w2 w.heap.size (.slice (some ⟨g,0,none⟩) zs.length zs.length) (Zi8 zs 0):=by rw[Zth];exact g6
  go_loopw [14] (fun i wr=>∃ k:Nat,k<=zs.length/\i=.int .i64 k/\OwnI wr w.heap.size (.slice (some ⟨g,0,none⟩) zs.length zs.length) (Zi8 zs k)/\Below w.heap.size w wr) (fun i _=>zs.length-(intOf i).toNat)
  case atStart=>exact⟨0,by omega,rfl,g5,g8⟩
  case round =>
   obtain⟨k,hk,rfl,g0,g2⟩:=hrel
   by_cases g4:k<zs.length
   .
    obtain⟨gg,gf⟩:=gc.out k g4;have gd:=Hd (HI.out.below g2);obtain⟨b,off,rfl,ge⟩:=gd.out.cells k g4;have q0:=g0.cell (at0 zs k).toNat (by rw[<- g0.len];omega);have p0:=g0.frozen (at0 zs k).toNat;have ga:=Hd (Ztg HR.out g4)
    go_wp2
    go_roundw
    case rel=>exact⟨k+1,by omega,by go_num,by rw[<- ga.out];exact g0.stored _ _,g2.setCell g9 _⟩
    case measure=>simp[intOf];omega
   .
    obtain rfl:k=zs.length:=by omega
    go_wp2
    go_ret;exact⟨_,rfl,by rw[<- Zvr HR.out];exact g0.sliceIs (by rw[<- g0.len];omega),g2⟩
 .
  have g7:Za1 zs=false:=by simpa using hr
  have HR:=Hd g7;have HF:Hid (Zel zs=[]):=by unfold Zel;rw[if_neg hr];rfl
  clear hr g7
  go_enter func63,ntmps63
  go_wp2_with fail;refine(Zbj _ _ zs _ HI.out hlen).mono ?_;rintro e w1 ⟨rfl,g3⟩;rw[HR.out];go_wp2_with fail;go_ret;exact⟨_,rfl,by rw[HF.out];exact Zge _,g3⟩
open Go.RowKit
theorem Zuw {gs:List (List Int)}{zs:List Int}{i:Nat}(hi:i<gs.length)(h:∀ g∈gs.take i,∀ t,t+1<g.length->Zau zs (at0 g (t+1))=Zau zs (at0 g t)+1)(h2:∀ t,t+1<(gs.getD i []).length->Zau zs (at0 (gs.getD i []) (t+1))=Zau zs (at0 (gs.getD i []) t)+1):∀ g∈gs.take (i+1),∀ t,t+1<g.length->Zau zs (at0 g (t+1))=Zau zs (at0 g t)+1:=by
 intro g hg;rw[List.take_succ_eq_append_getElem hi] at hg;rcases List.mem_append.1 hg with hg|hg
 . exact h g hg
 .
  rw[List.mem_singleton] at hg;have e:gs.getD i []=gs[i]:=by simp[List.getD,hi]
  rw[e] at h2;rw[hg];exact h2
theorem Znf {gs:List (List Int)}{i:Nat}(hi:i<gs.length):gs.getD i []∈gs:=by
 have e:gs.getD i []=gs[i]:=by simp[List.getD,hi]
 rw[e];exact List.getElem_mem _
theorem Zke {zs:List Int}(hr:Za1 zs=true){x:Int}(hx:0<=x/\x<(zs.length:Int)):0<=Zau zs x/\Zau zs x<(zs.length:Int):=by
 obtain⟨k,hk,e⟩:=Zc9 hr (x:=x.toNat) (by omega);have h1:=Zcb hr hk;rw[e] at h1;rw[show ((x.toNat:Nat):Int)=x by omega] at h1;omega
section
variable {mb gb n:Nat}{W:World}{lv v:Value}{gs:List (List Int)}
theorem Zf9 {o:Own}(h:GrB mb gb lv gs W o)(hV:∀ W',Below W.heap.size W W'->Calls prog 58 #[.pointer (some ⟨mb,0,none⟩)] W' fun x w'=>x=.returned (.int .i64 (n:Nat))/\W'=w'){zs:List Int}(hz:SliceIs W v zs)(hzl:zs.length<=1000)(hin:∀ x∈gs.flatten,0<=x/\x<(n:Int))(hgl:gs.length<=3000)(hgs:∀ g∈gs,g.length<=3000) :
 Calls prog 16 #[.pointer (some ⟨gb,0,none⟩),v] W fun x w'=>∃ b,x=.returned (.bool b)/\(b=true↔Zfh gs zs n)/\Below W.heap.size W w':=by
 have HV:=Hd hV;obtain⟨q0,q1,fz⟩:=cells2 h.1.1;have HG:=Hd h.1.1;have HS:=Hd h.2.is;obtain⟨al,cl,rfl,_⟩:=h.2.is.slice;obtain⟨az,cz,rfl,g4,_⟩:=id hz;have HZ:=Hd g4;have gf:=Hd (hV W (Below.refl _ _));obtain⟨PP,gr⟩:∃ PP:Bool->World->Prop,PP=fun b w'=>(b=true↔Zfh gs zs n)/\Below W.heap.size W w':=⟨_,rfl⟩
 have gg:=Hd gr;obtain⟨QQ,gq⟩:∃ QQ:Ending->World->Prop,QQ=fun x w'=>∃ b,x=.returned (.bool b)/\(b=true↔Zfh gs zs n)/\Below W.heap.size W w':=⟨_,rfl⟩
 have HQ:Hid (∀ b w',PP b w'->QQ (.returned (.bool b)) w'):=Hd (by rw[gq,gr];exact fun b w' hh=>⟨b,rfl,hh⟩);have gD:=Hd hin;have gO:=Hd hgs;rw[<- gq];clear h hV hz g4 hin hgs gr gq
 by_cases gy:zs.length=n
 .
  subst gy
  by_cases hr:Za1 zs=true
  .
   have HR:=Hd hr;have go:=Ze2 hr;clear hr
   go_enter func16,ntmps16
   go_wp2_with fail;refine gf.out.mono ?_;rintro x w' ⟨rfl,rfl⟩;go_wp2_with fail;refine(Zbj _ _ zs _ HZ.out (by omega)).mono ?_;rintro e w1 ⟨rfl,g2⟩;rw[HR.out];have gC:=Hd (Zg5 az cz zs w1 (HZ.out.below g2) (by omega));have gF:=Hd g2;have c0:=(g2.cell (p:=⟨gb,0,none⟩) (Zaa q0)).trans q0;have c1:=(g2.cell (p:=⟨gb,1,none⟩) (Zaa q1)).trans q1;clear g2 q0 q1 fz gf;go_wp2_with fail;refine gC.out.mono ?_;rintro e w2 ⟨v2,rfl,gK,ge⟩;obtain⟨at_,ct,rfl,gw,_⟩:=gK;rw[go];have HB2:=Hd (gF.out.trans (ge.mono gF.out.size));have HA:=Hd gw;have gE:=Hd go;have d0:=(ge.cell (p:=⟨gb,0,none⟩) (Zaa c0)).trans c0;have d1:=(ge.cell (p:=⟨gb,1,none⟩) (Zaa c1)).trans c1;clear ge gw c0 c1 go gC;go_wp2_with fail
   go_loopw [4,7,8,33] (fun _ _ _ s33 wx=>∃ i:Nat,i<=gs.length/\s33=.int .i64 i/\Hid (Below w2.heap.size w2 wx)/\Hid (∀ g∈gs.take i,∀ t,t+1<g.length->Zau zs (at0 g (t+1))=Zau zs (at0 g t)+1)) (fun _ _ _ s33 _=>gs.length-(intOf s33).toNat)
   case atStart=>exact⟨0,Nat.zero_le _,rfl,Hd (Below.refl _ _),Hd fun g hg=>by simp at hg⟩
   case round =>
    obtain⟨i,hi,rfl,g3,gv⟩:=hrel
    by_cases gl:i<gs.length
    .
     have gX:(i:Int)<gs.length:=by omega
     obtain⟨b,off,c',a2,c2,e1,hc,gj,gV⟩:=(HS.out.below (HB2.out.trans (g3.out.mono HB2.out.size))).elem gl;injection e1 with e1 _ e3
     subst e1 e3;have gc:=Znf gl;have g9:(∀ t,t+1<(gs.getD i []).length->Zau zs (at0 (gs.getD i []) (t+1))=Zau zs (at0 (gs.getD i []) t)+1)->∀ g∈gs.take (i+1),∀ t,t+1<g.length->Zau zs (at0 g (t+1))=Zau zs (at0 g t)+1:=Zuw gl gv.out;obtain⟨gi,gz⟩:∃ x,x=gs.getD i []:=⟨_,rfl⟩;rw[<- gz] at hc gj gc g9;have gP:=gO.out gi gc;have gt:=Hd gc;have ga:=Hd g9;have gB:=Hd gj;clear gz gc g9 gj;obtain⟨wo,gJ⟩:∃ w,w=wr:=⟨_,rfl⟩;subst gJ;go_wp2_with fail
     go_loopw [4,8] (fun _ s8 wx=>∃ t:Nat,(t=0\/t<gi.length)/\s8=.int .i64 ((t:Nat)+1)/\Hid (Below wo.heap.size wo wx)/\Hid (∀ u,u<t->u+1<gi.length->Zau zs (at0 gi (u+1))=Zau zs (at0 gi u)+1)) (fun _ s8 _=>gi.length+1-(intOf s8).toNat)
     case atStart=>exact⟨0,.inl rfl,rfl,Hd (Below.refl _ _),Hd fun u hu=>by omega⟩
     case round =>
      obtain⟨t,ht,rfl,g6,g7⟩:=hrel
      by_cases g8:t+1<gi.length
      .
       have gM:(t:Int)+1<gi.length:=by omega
       have gT:(t:Int)<3000:=by omega
       have gR:t<gi.length:=by omega
       have gS:IntKind.i64.wrap (t:Int)=(t:Int):=IntWalk.i64_in _ (by omega);have gQ:IntKind.i64.wrap ((t:Int)+1)=(t:Int)+1:=IntWalk.i64_in _ (by omega);have gA:Below wr.heap.size wr wr.drew:=Zaf wr 1;have g5:=Hd (g6.out.trans (gA.mono g6.out.size));have gd:=g3.out.trans (g5.out.mono g3.out.size);obtain⟨bx,ox,ex,x1⟩:=(gB.out.below g5.out).cells (t+1) g8;subst ex;obtain⟨bx',ox',ex,x0⟩:=(gB.out.below g5.out).cells t (by omega);injection ex with ex
       injection ex with ex1 ex2 _
       subst ex1 ex2;have m1:at0 gi (t+1)∈gs.flatten:=List.mem_flatten.2 ⟨gi,gt.out,by rw[Za8 g8];exact List.getElem_mem _⟩;have m0:at0 gi t∈gs.flatten:=List.mem_flatten.2 ⟨gi,gt.out,by rw[Za8 (show t<gi.length by omega)];exact List.getElem_mem _⟩;have r1:=gD.out _ m1;have r0:=gD.out _ m0;obtain⟨k1,gm⟩:∃ k:Nat,at0 gi (t+1)=(k:Int):=⟨(at0 gi (t+1)).toNat,by omega⟩;obtain⟨k0,gn⟩:∃ k:Nat,at0 gi t=(k:Int):=⟨(at0 gi t).toNat,by omega⟩;rw[gm] at x1 r1;rw[gn] at x0 r0;have l1:k1<zs.length:=by omega
       have l0:k0<zs.length:=by omega
       obtain⟨bt,ot,et,y1⟩:=(HA.out.below gd).cells k1 (by rw[gE.out];exact l1);subst et;obtain⟨bt',ot',et,y0⟩:=(HA.out.below gd).cells k0 (by rw[gE.out];exact l0);injection et with et
       injection et with et1 et2 _
       subst et1 et2;rw[Zf2 HR.out l1] at y1;rw[Zf2 HR.out l0] at y0;have p1:=Zke HR.out (x:=(k1:Int)) (by omega);have p0:=Zke HR.out (x:=(k0:Int)) (by omega);obtain⟨z1,gk⟩:∃ z,z=Zau zs (k1:Int):=⟨_,rfl⟩;obtain⟨z0,g4⟩:∃ z,z=Zau zs (k0:Int):=⟨_,rfl⟩;rw[<- gk] at y1 p1;rw[<- g4] at y0 p0;have g1:(k1:Int)<zs.length:=by omega
       have g0:(k0:Int)<zs.length:=by omega
       have zw:IntKind.i64.wrap (z0+1)=z0+1:=IntWalk.i64_in _ (by omega);obtain⟨bb,gp⟩:∃ b:Bool,b=(z1 != z0+1):=⟨_,rfl⟩;have gh:Hid (bb=false↔Zau zs (at0 gi (t+1))=Zau zs (at0 gi t)+1):=Hd (by rw[gm,gn,<- gk,<- g4,gp];simp);have gu:=Hd (HB2.out.trans (gd.mono HB2.out.size));clear m1 m0 gm gn gk g4 r1 r0 gA gd g6;go_upto_region 10 with fail;refine Zam (fun w':World=>w'.cell? ⟨bx,ox+(t+1),none⟩=some (.int .i64 (k1:Nat))/\w'.cell? ⟨bx,ox+t,none⟩=some (.int .i64 (k0:Nat))/\w'.cell? ⟨bt,ot+k1,none⟩=some (.int .i64 z1)/\w'.cell? ⟨bt,ot+k0,none⟩=some (.int .i64 z0)) false 17 [(0,false),(1,false),(2,false),(3,false),(4,false),(5,false),(6,false),(7,false),(8,false),(9,false),(10,false),(11,false),(12,false),(13,false),(14,false),(15,false),(16,false)] (by kernel_rfl) (by kernel_rfl) ⟨x1,x0,y1,y0⟩ ?_;simp only[planned,Zcc]
       iterate 17
        refine Zaj rfl ?_;apply Exists.intro;refine⟨fun w' hw=>?_,?_⟩
        . obtain⟨h1,h2,h3,h4⟩:=hw;go_simp;rfl
        simp only[Zae]
       refine Zb8 ?_;rw[<- gp];clear x1 x0 y1 y0 gp;cases bb with
       | true =>
         have HF:=Hd (HQ.out false wr.drew (by
          rw[gg.out];refine⟨⟨(fun e=>by cases e),fun hk=>?_⟩,gu.out⟩;have:=gh.out.2 (hk.2.2 gi gt.out t g8);cases this))
         clear gh gu g7 ga;go_wp2_with fail;exact HF.out
       | false =>
         have gH:Hid (∀ u,u<t+1->u+1<gi.length->Zau zs (at0 gi (u+1))=Zau zs (at0 gi u)+1):=Hd fun u hu gL=>by
          rcases Nat.lt_or_ge u t with c|c
          . exact g7.out u c gL
          .
           obtain rfl:u=t:=by omega
           exact gh.out.1 rfl
         clear gh gu g7;go_wp2_with fail;go_roundw
         case rel=>exact⟨t+1,.inr (by omega),by go_num,g5,gH⟩
         case measure=>simp[intOf];omega
      .
       have gM:¬ (t:Int)+1<gi.length:=by omega
       have gI:=Hd (ga.out fun u hu=>g7.out u (by omega) hu);have gG:=Hd (g3.out.trans (g6.out.mono g3.out.size));clear ga g7 g6 g3;go_wp2_with fail;go_roundw
       case rel=>exact⟨i+1,by omega,by go_num,gG,gI⟩
       case measure=>simp[intOf];omega
    .
     obtain rfl:i=gs.length:=by omega
     have HF:=Hd (HQ.out true wr (by
      rw[gg.out];refine⟨⟨fun _=>⟨rfl,HR.out,fun g hg=>gv.out g (by rw[List.take_length];exact hg)⟩,fun _=>rfl⟩,HB2.out.trans (g3.out.mono HB2.out.size)⟩))
     clear gv g3;go_wp2_with fail;exact HF.out
  .
   have gx:Za1 zs=false:=by simpa using hr
   have HR:=Hd gx;have gN:Hid (¬ Zfh gs zs zs.length):=Hd fun hk=>hr hk.2.1
   clear hr gx
   go_enter func16,ntmps16
   go_wp2_with fail;refine gf.out.mono ?_;rintro x w' ⟨rfl,rfl⟩;go_wp2_with fail;refine(Zbj _ _ zs _ HZ.out (by omega)).mono ?_;rintro e w1 ⟨rfl,g2⟩;rw[HR.out];have HF:=Hd (HQ.out false w1 (by rw[gg.out];exact⟨⟨(fun e=>by cases e),fun hk=>(gN.out hk).elim⟩,g2⟩));clear g2;go_wp2_with fail;exact HF.out
 .
  have gU:((zs.length:Int) != (n:Int))=true:=by simp;omega
  have HF:=Hd (HQ.out false W (by rw[gg.out];exact⟨⟨(fun e=>by cases e),fun hk=>(gy hk.1).elim⟩,Below.refl _ _⟩))
  go_enter func16,ntmps16
  go_wp2_with fail;refine gf.out.mono ?_;rintro x w' ⟨rfl,rfl⟩;go_wp2_with fail;exact HF.out
end
open Go.RowKit
structure InsI (gs:List (List Int))(lev:Int->Nat)(i:Nat)(os:List Nat):Prop where
 mem:∀ j,j∈os↔j<i/\grp gs j≠[]
 inc:os.Pairwise fun a b=>lev ((grp gs a).headD 0)<lev ((grp gs b).headD 0)
 len:os.length<=i
section
variable {gs:List (List Int)}{lev:Int->Nat}{i k:Nat}{os:List Nat}
theorem InsI.skip (h:InsI gs lev i os)(he:grp gs i=[]):InsI gs lev (i+1) os:=by
 refine⟨fun j=>?_,h.inc,by have:=h.len;omega⟩;rw[h.mem];constructor
 . exact fun⟨h1,h2⟩=>⟨by omega,h2⟩
 .
  rintro⟨h1,h2⟩;refine⟨?_,h2⟩;rcases Nat.lt_or_ge j i with c|c
  . exact c
  .
   obtain rfl:j=i:=by omega
   exact(h2 he).elim
theorem InsI.ins (h:InsI gs lev i os)(he:grp gs i≠[])(hk:k<=os.length)(h1:∀ j∈os.drop k,lev ((grp gs i).headD 0)<lev ((grp gs j).headD 0))(h2:∀ t,k=t+1->∀ (ht:t<os.length),lev ((grp gs os[t]).headD 0)<lev ((grp gs i).headD 0)):InsI gs lev (i+1) (os.take k++i::os.drop k):=by
 refine⟨fun j=>?_,?_,by simp only[List.length_append,List.length_cons,List.length_take,List.length_drop];have:=h.len;omega⟩
 .
  have e:j∈os↔j∈os.take k\/j∈os.drop k:=by rw[<- List.mem_append,List.take_append_drop]
  rw[List.mem_append,List.mem_cons];constructor
  .
   rintro(hj|rfl|hj)
   . have:=(h.mem j).1 (e.2 (.inl hj));exact⟨by omega,this.2⟩
   . exact⟨by omega,he⟩
   . have:=(h.mem j).1 (e.2 (.inr hj));exact⟨by omega,this.2⟩
  .
   rintro⟨h3,h4⟩;rcases Nat.lt_or_ge j i with c|c
   .
    rcases e.1 ((h.mem j).2 ⟨c,h4⟩) with h5|h5
    . exact .inl h5
    . exact .inr (.inr h5)
   . exact .inr (.inl (by omega))
 .
  have hp:=h.inc;rw[<- List.take_append_drop k os,List.pairwise_append] at hp;rw[List.pairwise_append,List.pairwise_cons];refine⟨hp.1,⟨h1,hp.2.1⟩,fun a ha b hb=>?_⟩;have g1:lev ((grp gs a).headD 0)<lev ((grp gs i).headD 0):=by
   obtain⟨u,hu,rfl⟩:=List.getElem_of_mem ha;rw[List.length_take] at hu;have g0:u<os.length:=by omega
   rw[List.getElem_take];obtain⟨t,rfl⟩:∃ t,k=t+1:=⟨k-1,by omega⟩;have h3:=h2 t rfl (by omega);rcases Nat.lt_or_ge u t with c|c
   . have:=List.pairwise_iff_getElem.1 h.inc u t g0 (by omega) c;omega
   .
    obtain rfl:u=t:=by omega
    exact h3
  rcases List.mem_cons.1 hb with rfl|hb
  . exact g1
  . have:=h1 b hb;omega
theorem InsI.all (h:InsI gs lev gs.length os):Placed gs lev os:=⟨fun j=>h.mem j,h.inc⟩
end
theorem Zw2 {A B:List Int}{z y:Int}{k:Nat}(hk:A.length=k):(A++z::B).set k y=A++y::B:=by
 subst hk;rw[List.set_append_right _ _ (Nat.le_refl _),Nat.sub_self,List.set_cons_zero]
theorem Zya {os:List Nat}{t:Nat}(ht:t<os.length):(os.take (t+1)).map Int.ofNat++(os[t]:Int)::(os.drop (t+1)).map Int.ofNat=(os.take t).map Int.ofNat++(os[t]:Int)::(os.drop t).map Int.ofNat:=by
 rw[List.take_succ_eq_append_getElem ht,List.drop_eq_getElem_cons ht,List.map_append,List.append_assoc];rfl
theorem Yas {zs:List Int}{n:Nat}(hr:Za1 zs=true)(hl:zs.length=n){x y:Int}(hx:0<=x/\x<(n:Int))(hy:0<=y/\y<(n:Int))(e:Zau zs x=Zau zs y):x=y:=by
 obtain⟨k,hk,e1⟩:=Zc9 hr (x:=x.toNat) (by omega);obtain⟨j,hj,e2⟩:=Zc9 hr (x:=y.toNat) (by omega);have h1:=Zcb hr hk;have h2:=Zcb hr hj;rw[e1,show ((x.toNat:Nat):Int)=x by omega] at h1;rw[e2,show ((y.toNat:Nat):Int)=y by omega] at h2;have:k=j:=by omega
 subst this;omega
theorem Zgr.range {gs:List (List Int)}{n:Nat}(h:Zgr gs n){i:Nat}(hi:i<gs.length){t:Nat}(ht:t<(grp gs i).length):0<=at0 (grp gs i) t/\at0 (grp gs i) t<(n:Int):=by
 refine(h.mem _).1 (List.mem_flatten.2 ⟨grp gs i,?_,?_⟩)
 . rw[Ze1 hi];exact List.getElem_mem _
 . rw[Za8 ht];exact List.getElem_mem _
section
variable {K:Law}{n room:Nat}{w0 w W w' wb:World}{mb gb:Nat}{fs r:List (Int×BF)}{nx:Int}{o0:Own}{ws0:List Ev}{C:Nat->Prop}{B:World->Own->Prop}{P P':List Nat->Prop}{lv v:Value}{gs:List (List Int)}
theorem Zt4 (hB:Zf1 B)(h:FxO K n room w0 mb ws0 C o0 wb B P fs nx W)(hg:∀ W o,B W o->GrB mb gb lv gs W o)(hw:Zgr gs n)(hgl:gs.length<=3000)(hn:n<=64) :
 Calls prog 65 #[.pointer (some ⟨gb,0,none⟩)] W fun x w'=>∃ (v:Value) (l pl:List Nat),x=.returned v/\l.length=n/\P l/\Za1 (l.map Int.ofNat)=true/\Placed gs (levZ (l.map Int.ofNat)) pl/\pl.length<=3000/\FxO K n room w0 mb ws0 C o0 wb (fun W o=>B W o/\Zdw v (pl.map Int.ofNat) W o) (fun l'=>l'=l) fs nx w':=by
 have hm:=Hd (h.order hB);have hG:∃ o,GrB mb gb lv gs W o:=by obtain⟨o,m,V,_,_,_,h4⟩:=h;exact⟨o,hg _ _ h4⟩
 have gM:=Hd hB;have hN:=Hd hg;have HW:=Hd hw;obtain⟨og,g5⟩:=hG;obtain⟨q0,q1,fz⟩:=cells2 g5.1.1;obtain⟨al,cl,rfl,_⟩:=g5.2.is.slice;obtain⟨QQ,gH⟩:∃ QQ:Ending->World->Prop,QQ=fun x w'=>∃ (v:Value) (l pl:List Nat),x=.returned v/\l.length=n/\P l/\Za1 (l.map Int.ofNat)=true/\Placed gs (levZ (l.map Int.ofNat)) pl/\pl.length<=3000/\FxO K n room w0 mb ws0 C o0 wb (fun W o=>B W o/\Zdw v (pl.map Int.ofNat) W o) (fun l'=>l'=l) fs nx w':=⟨_,rfl⟩
 have HQ:Hid (∀ x w' (v:Value) (l pl:List Nat),x=.returned v->l.length=n->P l->Za1 (l.map Int.ofNat)=true->Placed gs (levZ (l.map Int.ofNat)) pl->pl.length<=3000->FxO K n room w0 mb ws0 C o0 wb (fun W o=>B W o/\Zdw v (pl.map Int.ofNat) W o) (fun l'=>l'=l) fs nx w'->QQ x w'):=Hd (by rw[gH];exact fun x w' v l pl h1 h2 h3 h4 h5 h6 h7=>⟨v,l,pl,h1,h2,h3,h4,h5,h6,h7⟩);rw[<- gH];clear h hB hg hw g5 gH
 go_enter func65,ntmps65
 go_wp2_with fail;refine hm.out.mono ?_;rintro x w1 ⟨v1,l,rfl,hl,gZ,go,_,h1,_⟩;obtain⟨zs,gl⟩:∃ zs,zs=l.map Int.ofNat:=⟨_,rfl⟩;have gw:zs.length=n:=by rw[gl,List.length_map,hl]
 rw[<- gl] at go h1;have hs1:SliceIs w1 v1 zs:=h1.know (Q:=fun W=>SliceIs W v1 zs) fun W o hh=>hh.2.slice
 obtain⟨a1,c1,rfl,gO,_⟩:=hs1;have hf:=Hd (Zg5 a1 c1 zs w1 gO (by omega));have gu:=Ze2 go;rw[gw] at gu;have H1:=Hd h1;have HR:=Hd go;have h8:=Hd gl;have g9:=Hd gw;have ho:=Hd (show l.length=n/\P l from ⟨hl,gZ⟩);clear h1 gO go gl hl gZ hm gw q0 q1 fz;go_wp2_with fail;refine hf.out.mono ?_;rintro x w2 ⟨v2,rfl,hC,gY⟩;obtain⟨at_,ct,rfl,gN,_⟩:=hC;rw[gu];have HA:=Hd gN;have ht:=Hd gu;have H2:=Hd (H1.out.below (gM.out.and Zdw.keep) gY);obtain⟨og2,g5⟩:∃ o,GrB mb gb (.slice al gs.length cl) gs w2 o:=by obtain⟨o,m,V,_,_,_,h4⟩:=H2.out;exact⟨o,hN.out _ _ h4.1⟩
 have k6:=Hd g5.1.1;have hu:=Hd g5.2.is;obtain⟨q0,q1,fz⟩:=cells2 g5.1.1;clear gN gY gu hf H1 g5;go_wp2_with fail
 go_loopw [4,5,6,7,19] (fun s4 _ _ _ s19 wx=>∃ (i:Nat) (os:List Nat),i<=gs.length/\s19=.int .i64 i/\Hid (OwnI wx w2.heap.size s4 (os.map Int.ofNat))/\Hid (Below w2.heap.size w2 wx)/\Hid (InsI gs (levZ zs) i os)) (fun _ _ _ _ s19 _=>gs.length-(intOf s19).toNat)
 case atStart=>exact⟨0,[],Nat.zero_le _,rfl,Hd (Zgd _ _),Hd (Below.refl _ _),Hd ⟨fun j=>by simp,List.Pairwise.nil,Nat.zero_le _⟩⟩
 case round =>
  obtain⟨i,os,hi,rfl,HO,g0,HI⟩:=hrel;have d1:=(g0.out.cell (p:=⟨gb,1,none⟩) (Zaa q1)).trans q1;clear d1;have hz:os.length<=3000:=by have:=HI.out.len;omega
  by_cases gy:i<gs.length
  .
   have k5:(i:Int)<gs.length:=by omega
   obtain⟨bl,ol,c',ai,ci,e1,gG,gm,hZ⟩:=hu.out.elem gy;injection e1 with e1 _ e3
   subst e1 e3;have hc:=(g0.out.cell (p:=⟨bl,ol+i,none⟩) (Zaa gG)).trans gG;clear gG;have gF:gs.getD i []=grp gs i:=rfl;rw[gF] at hc gm
   by_cases he:grp gs i=[]
   .
    rw[he] at hc;have hM:=Hd (HI.out.skip he);clear he HI gm gF;simp only[List.length_nil] at hc;go_wp2_with fail;go_roundw
    case rel=>exact⟨i+1,os,by omega,by go_num,HO,g0,hM⟩
    case measure=>simp[intOf];omega
   .
    have HE:=Hd he;have gd:0<(grp gs i).length:=List.length_pos_iff.2 he;obtain⟨li,gA⟩:∃ x,x=(grp gs i).length:=⟨_,rfl⟩;have gJ:=Hd gA;rw[<- gA] at hc gd;have hI:=Hd gm;have hQ:((li:Int) == 0)=false:=by simp;omega
    have hP:(0:Int)<(li:Int):=by omega
    clear he gm gF gA;obtain⟨a4,c4,e4,_,_⟩:=HO.out.sliceIs (by rw[List.length_map];omega);rw[List.length_map] at e4;subst e4;go_wp2_with (at_builtin;refine Zcm wr rfl _ _ rfl w2.heap.size w2 _ (os.map Int.ofNat) (i:Int) rfl rfl rfl (by simp) (by exact HO.out) (by rw[List.length_map];omega) g0.out.size g0.out ?_;intro v5 w5 g7 gX hD hF);have gk:(os.map Int.ofNat++[(i:Int)]).length=os.length+1:=by simp
    rcases id g7.2 with ⟨_,h0⟩|⟨bo,c5,cur,e5,gV,_⟩
    . rw[gk] at h0;omega
    subst e5;rw[gk] at g7 ⊢;obtain⟨bi,oi,ea,x0⟩:=hI.out.cells 0 (by rw[<- gJ.out];exact gd);subst ea;rw[Nat.add_zero] at x0;have rg:=HW.out.range gy (t:=0) (by rw[<- gJ.out];exact gd);obtain⟨ki,gr⟩:∃ k:Nat,at0 (grp gs i) 0=(k:Int):=⟨(at0 (grp gs i) 0).toNat,by omega⟩;rw[gr] at x0 rg;have gC:ki<n:=by omega
    obtain⟨bt,ot,ea,y0⟩:=HA.out.cells ki (by rw[ht.out];exact gC);subst ea;rw[Zf2 HR.out (by rw[g9.out];exact gC)] at y0;obtain⟨zi,gf⟩:∃ z,z=Zau zs (ki:Int):=⟨_,rfl⟩;rw[<- gf] at y0;have gp:levZ zs ((grp gs i).headD 0)=zi.toNat/\0<=zi/\zi<(n:Int):=by
     have h1:=Zke HR.out (x:=(ki:Int)) (by rw[g9.out];omega);unfold levZ;rw[Zj7 HE.out,gr,<- gf];rw[<- gf,g9.out] at h1;exact⟨rfl,h1⟩
    have gi:=Hd gp;have hL:=Hd (show at0 (grp gs i) 0=(ki:Int)/\zi=Zau zs (ki:Int) from ⟨gr,gf⟩);have hb:=Hd x0;have ha:=Hd y0;have HM:Hid (OwnI w5 w2.heap.size (.slice (some ⟨bo,0,none⟩) (os.length+1) c5) ((os.take os.length).map Int.ofNat++(i:Int)::(os.drop os.length).map Int.ofNat)):=Hd (by rw[List.take_length,List.drop_length,List.map_nil];exact g7);have hv:=Hd gV;have hy:=Hd gX;have hS:(ki:Int)<(n:Int):=by omega
    clear gr gf gp x0 y0 rg g7 gX hD hF gk gV HO;go_wp2_with fail
    go_loopw [7] (fun s7 wx=>∃ (k:Nat) (z:Int),k<=os.length/\s7=.int .i64 k/\Hid (OwnI wx w2.heap.size (.slice (some ⟨bo,0,none⟩) (os.length+1) c5) ((os.take k).map Int.ofNat++z::(os.drop k).map Int.ofNat))/\Hid (Below w2.heap.size w2 wx)/\Hid (∀ j∈os.drop k,levZ zs ((grp gs i).headD 0)<levZ zs ((grp gs j).headD 0))) (fun s7 _=>(intOf s7).toNat)
    case atStart=>exact⟨os.length,(i:Int),Nat.le_refl _,rfl,HM,hy,Hd fun j hj=>by simp at hj⟩
    case round =>
     clear HM hy hc
     rename World=>wr
     obtain⟨k,z,hk,rfl,HM,gj,ga⟩:=hrel;obtain⟨wz,gn⟩:∃ w,w=wr.drew:=⟨_,rfl⟩;have gh:=Hd gn;have gc:Hid (Below w2.heap.size w2 wz):=Hd (by rw[gn];exact gj.out.trans ((Zaf wr 1).mono gj.out.size));have g6:Hid (OwnI wz w2.heap.size (.slice (some ⟨bo,0,none⟩) (os.length+1) c5) ((os.take k).map Int.ofNat++z::(os.drop k).map Int.ofNat)):=Hd (by rw[gn];exact HM.out.below (Zaf wr 1));clear gn;have gg:((os.take k).map Int.ofNat++z::(os.drop k).map Int.ofNat).length=os.length+1:=by
      simp only[List.length_append,List.length_map,List.length_take,List.length_cons,List.length_drop];omega
     have tkl:((os.take k).map Int.ofNat).length=k:=by rw[List.length_map,List.length_take];omega
     have m0:=g6.out.cell k (by rw[gg];omega);have mf:=g6.out.frozen k;have k3:k<os.length+1:=by omega
     have k0:(k:Int)<(os.length:Int)+1:=by omega
     have gI:Hid (OwnI (wz.setCell ⟨bo,k,none⟩ (.int .i64 i)) w2.heap.size (.slice (some ⟨bo,0,none⟩) (os.length+1) c5) ((os.take k++i::os.drop k).map Int.ofNat)):=Hd (by
      have h1:=g6.out.stored k (i:Int);rw[Zw2 tkl] at h1;rw[List.map_append,List.map_cons];exact h1)
     have gL:Hid (Below w2.heap.size w2 (wz.setCell ⟨bo,k,none⟩ (.int .i64 i))):=Hd (gc.out.setCell hv.out _);cases k with
     | zero =>
       have gK:Hid (InsI gs (levZ zs) (i+1) (os.take 0++i::os.drop 0)):=Hd (HI.out.ins HE.out (Nat.zero_le _) ga.out fun t e=>by omega);clear HM gj gc g6 ga gg tkl;go_upto_region 9 with fail;refine Zam (fun _:World=>True/\True) false 27 [(0,false),(1,false),(2,false),(3,false),(4,false),(5,false),(6,false),(7,false),(8,false),(9,false),(10,false),(11,false),(12,false),(13,false),(14,false),(15,false),(16,false),(17,false),(18,false),(19,false),(20,false),(21,false),(22,false),(23,false),(24,false),(25,false),(26,false)] (by kernel_rfl) (by kernel_rfl) ⟨trivial,trivial⟩ ?_;simp only[planned,Zcc]
       iterate 3
        refine Zaj rfl ?_;apply Exists.intro;refine⟨fun w' hw=>?_,?_⟩
        . obtain⟨_,_⟩:=hw;go_simp;rfl
        simp only[Zae]
       iterate 23
        refine Zb2 false (by go_simp) ?_;refine Exists.intro undef (And.intro (fun gU=>absurd gU (by simp)) ?_);simp only[Zae]
       iterate 1
        refine Zaj rfl ?_;apply Exists.intro;refine⟨fun w' hw=>?_,?_⟩
        . obtain⟨_,_⟩:=hw;go_simp;rfl
        simp only[Zae]
       refine Zb8 ?_;rw[<- gh.out];clear gh;go_wp2_with fail;go_roundw
       case rel=>exact⟨i+1,_,by omega,by go_num,gI,gL,gK⟩
       case measure=>simp[intOf];omega
     | succ t =>
       have gP:t<os.length:=by omega
       have hU:t<os.length+1:=by omega
       obtain⟨j,hj⟩:∃ j,j=os[t]:=⟨_,rfl⟩;have gS:j∈os:=by rw[hj];exact List.getElem_mem _
       have gE:=(HI.out.mem j).1 gS;have gD:j<gs.length:=by omega
       obtain⟨bl',ol',c'',aj,cj,e1,gv,gx,_⟩:=hu.out.elem gD;injection e1 with e1 _ e3
       injection e1 with e1
       injection e1 with e11 e12 _
       subst e11 e12 e3;rw[show gs.getD j []=grp gs j from rfl] at gv gx;have gt:0<(grp gs j).length:=List.length_pos_iff.2 gE.2;obtain⟨bj,oj,ea,x1⟩:=gx.cells 0 gt;subst ea;rw[Nat.add_zero] at x1;have rg:=HW.out.range gD (t:=0) gt;obtain⟨kj,gq⟩:∃ k:Nat,at0 (grp gs j) 0=(k:Int):=⟨(at0 (grp gs j) 0).toNat,by omega⟩;rw[gq] at x1 rg;have gB:kj<n:=by omega
       have hR:(kj:Int)<(n:Int):=by omega
       obtain⟨bt',ot',ea,y1⟩:=HA.out.cells kj (by rw[ht.out];exact gB);injection ea with ea
       injection ea with ea1 ea2 _
       subst ea1 ea2;rw[Zf2 HR.out (by rw[g9.out];exact gB)] at y1;obtain⟨zj,g8⟩:∃ z,z=Zau zs (kj:Int):=⟨_,rfl⟩;rw[<- g8] at y1;have ge:levZ zs ((grp gs j).headD 0)=zj.toNat/\0<=zj/\zj<(n:Int):=by
        have h1:=Zke HR.out (x:=(kj:Int)) (by rw[g9.out];omega);unfold levZ;rw[Zj7 gE.2,gq,<- g8];rw[<- g8,g9.out] at h1;exact⟨rfl,h1⟩
       have gQ:zi≠zj:=fun e=>by
        have h1:=hL.out;have h2:=Yas HR.out g9.out (x:=(ki:Int)) (y:=(kj:Int)) (by omega) (by omega) (by rw[<- h1.2,<- g8];exact e);have h3:=Zky HW.out.ap gy gD (v:=(ki:Int)) (by rw[<- h1.1,Za8 (by rw[<- gJ.out];exact gd)];exact List.getElem_mem _) (by rw[h2,<- gq,Za8 gt];exact List.getElem_mem _);omega
       have gR:levZ zs ((grp gs os[t]).headD 0)=zj.toNat:=by rw[<- hj];exact ge.1
       have hr:=Hd gR;have hJ:=Hd gQ;have h9:=Hd ge.2;have hE:=gi.out;have o0:=g6.out.cell t (by rw[gg];omega);have oe:at0 ((os.take (t+1)).map Int.ofNat++z::(os.drop (t+1)).map Int.ofNat) t=(j:Int):=by
        rw[Zew (by rw[tkl];omega),Zfj (by rw[List.length_take];omega)];simp[List.getD,gP,hj]
       rw[oe] at o0;have b1:=fun(p:Addr) (hp:p.block<w2.heap.size)=>gc.out.cell (p:=p) hp
       have r1:=(b1 ⟨gb,1,none⟩ (Zaa q1)).trans q1;have r2:=(b1 ⟨bl,ol+j,none⟩ (Zaa gv)).trans gv;have r3:=(b1 ⟨bj,oj,none⟩ (Zaa x1)).trans x1;have r4:=(b1 ⟨bt,ot+kj,none⟩ (Zaa y1)).trans y1;have r5:=(b1 ⟨bi,oi,none⟩ (Zaa hb.out)).trans hb.out;have r6:=(b1 ⟨bt,ot+ki,none⟩ (Zaa ha.out)).trans ha.out;obtain⟨lj,gz⟩:∃ x,x=(grp gs j).length:=⟨_,rfl⟩;rw[<- gz] at r2 gt;have k4:(j:Int)<(gs.length:Int):=by omega
       have hT:(t:Int)<(os.length:Int)+1:=by omega
       have hX:(t:Int)<4000:=by omega
       have hW:IntKind.i64.wrap (t:Int)=(t:Int):=IntWalk.i64_in _ (by omega);have HJ:=Hd hj;have hd:=Hd gP;clear gS gE gv gx x1 rg gq y1 g8 ge gQ gR hE oe b1 gz hj;go_upto_region 9 with fail;refine Zam (fun w':World=>w'.cell? ⟨gb,1,none⟩=some (.slice (some ⟨bl,ol,none⟩) gs.length cl)/\w'.cell? ⟨bl,ol+j,none⟩=some (.slice (some ⟨bj,oj,none⟩) lj cj)/\w'.cell? ⟨bj,oj,none⟩=some (.int .i64 (kj:Nat))/\w'.cell? ⟨bt,ot+kj,none⟩=some (.int .i64 zj)/\w'.cell? ⟨bi,oi,none⟩=some (.int .i64 (ki:Nat))/\w'.cell? ⟨bt,ot+ki,none⟩=some (.int .i64 zi)/\w'.cell? ⟨bo,t,none⟩=some (.int .i64 (j:Nat))) false 27 [(0,false),(1,false),(2,false),(3,false),(4,false),(5,false),(6,false),(7,false),(8,false),(9,false),(10,false),(11,false),(12,false),(13,false),(14,false),(15,false),(16,false),(17,false),(18,false),(19,false),(20,false),(21,false),(22,false),(23,false),(24,false),(25,false),(26,false)] (by kernel_rfl) (by kernel_rfl) (by rw[<- gh.out];exact⟨r1,r2,r3,r4,r5,r6,o0⟩) ?_;simp only[planned,Zcc]
       iterate 3
        refine Zaj rfl ?_;apply Exists.intro;refine⟨fun w' hw=>?_,?_⟩
        . obtain⟨h1,h2,h3,h4,h5,h6,h7⟩:=hw;go_simp;rfl
        simp only[Zae]
       iterate 23
        refine Zb2 true (by go_simp) ?_;apply Exists.intro;refine⟨fun gU w' hw=>?_,?_⟩
        . obtain⟨h1,h2,h3,h4,h5,h6,h7⟩:=hw;go_simp;rfl
        simp only[Zae]
       iterate 1
        refine Zaj rfl ?_;apply Exists.intro;refine⟨fun w' hw=>?_,?_⟩
        . obtain⟨h1,h2,h3,h4,h5,h6,h7⟩:=hw;go_simp;rfl
        simp only[Zae]
       refine Zb8 ?_;rw[<- gh.out];clear gh r1 r2 r3 r4 r5 r6
       by_cases gT:zi<zj
       .
        have hK:Hid (OwnI (wz.setCell ⟨bo,t+1,none⟩ (.int .i64 j)) w2.heap.size (.slice (some ⟨bo,0,none⟩) (os.length+1) c5) ((os.take t).map Int.ofNat++(j:Int)::(os.drop t).map Int.ofNat)):=Hd (by
         have h1:=g6.out.stored (t+1) (j:Int);rw[Zw2 tkl,HJ.out,Zya hd.out,<- HJ.out] at h1;exact h1)
        have hO:Hid (Below w2.heap.size w2 (wz.setCell ⟨bo,t+1,none⟩ (.int .i64 j))):=Hd (gc.out.setCell hv.out _);have hA:Hid (∀ q∈os.drop t,levZ zs ((grp gs i).headD 0)<levZ zs ((grp gs q).headD 0)):=Hd fun q hq=>by
         rw[List.drop_eq_getElem_cons hd.out] at hq;rcases List.mem_cons.1 hq with rfl|hq
         . rw[hr.out,gi.out.1];have:=h9.out;have:=gi.out;omega
         . exact ga.out q hq
        have hH:decide (zi<zj)=true:=decide_eq_true gT;clear HM gj gc g6 ga gI gL gg tkl;go_wp2_with fail;go_roundw
        case rel=>exact⟨t,(j:Int),by omega,by go_num,hK,hO,hA⟩
        case measure=>simp[intOf]
       .
        have gK:Hid (InsI gs (levZ zs) (i+1) (os.take (t+1)++i::os.drop (t+1))):=Hd (HI.out.ins HE.out hk ga.out fun t' e hY=>by
         obtain rfl:t=t':=by omega
         rw[hr.out,gi.out.1];have:=hJ.out;have:=h9.out;have:=gi.out;omega)
        have hH:decide (zi<zj)=false:=decide_eq_false gT;clear HM gj gc g6 ga gg tkl;go_wp2_with fail;go_roundw
        case rel=>exact⟨i+1,_,by omega,by go_num,gI,gL,gK⟩
        case measure=>simp[intOf];omega
  .
   obtain rfl:i=gs.length:=by omega
   obtain⟨a5,c5,e5,_,_⟩:=HO.out.sliceIs (by rw[List.length_map];omega)
   have HF:=Hd (HQ.out (.returned u4) wr u4 l os rfl ho.out.1 ho.out.2 (by rw[<- h8.out];exact HR.out) (by rw[<- h8.out];exact HI.out.all) hz (by
    have h5:=(H2.out.below (gM.out.and Zdw.keep) (g0.out.trans (Below.refl _ _)));obtain⟨o,m,V,g1,g2,g3,g4⟩:=H2.out;have hc:=ChgX.of_below g0.out o NoB;exact⟨o,m,V,g1.trans hc NoB.sub,g2,g3.below g0.out,(gM.out _ _ _ _ g4.1 hc),HO.out.sliceIs (by rw[List.length_map];omega),fun k hk=>⟨(HO.out.lt k hk).2,g3.lt.none (HO.out.lt k hk).1⟩⟩))
   rw[e5] at HF ⊢;clear HI HO g0 e5;go_wp2_with fail;exact HF.out
end
open Go.RowKit
section
variable {K:Law}{n room:Nat}{w0 w W w' wb:World}{mb:Nat}{fs r:List (Int×BF)}{nx:Int}{o0:Own}{ws0:List Ev}{C:Nat->Prop}{B:World->Own->Prop}{P P':List Nat->Prop}
theorem Zuz (hB:Zf1 B)(h:FxO K n room w0 mb ws0 C o0 wb B P fs nx W)(hn:nx<=549755813888)(hr:3*(fs.length*2^n)<=room){v:Value}{zs:List Int}(hz:∀ W o,B W o->SliceIs W v zs)(hzr:Za1 zs=true)(hzl:zs.length=n) :
 Calls prog 179 #[.pointer (some ⟨mb,0,none⟩),v] W fun x w'=>x=.returned (.int .i64 0)/\FxO K n room w0 mb ws0 C o0 wb B (fun l=>l.map Int.ofNat=zs) fs nx w':=by
 have hn64:n<=64:=by obtain⟨o,m,V,_,_,h3,_⟩:=h;have:=h3.ok.store.small;rw[h3.vars] at this;exact this
 have gg:=Hd (h.order hB);have gi:=Hd hB;have HZ:=Hd hz;have ge:=Hd hzr;have g8:=Hd hzl;have gl:Hid (∀ (B':World->Own->Prop) (gd:Zf1 B') (P P':List Nat->Prop) W k,FxO K n room w0 mb ws0 C o0 wb B' P fs nx W->k+1<n->(∀ l,l.length=n->P l->P' (exL l k))->Calls prog 130 #[.pointer (some ⟨mb,0,none⟩),.int .i64 k] W fun e w'=>e=.returned (.int .i64 0)/\FxO K n room w0 mb ws0 C o0 wb B' P' fs nx w'):=Hd fun B' gd P P' W k hA hk hP=>hA.swap gd hk hn hr hP
 obtain⟨a,c,rfl,-⟩:∃ a c,v=.slice a zs.length c/\True:=by
  obtain⟨o,m,V,_,_,_,h4⟩:=h;obtain⟨a,c,e,_⟩:=hz _ _ h4;exact⟨a,c,e,trivial⟩
 clear h hz hzr hzl hr hB
 go_enter func179,ntmps179
 go_wp2_with fail;refine gg.out.mono ?_;rintro x w1 ⟨v1,l,rfl,hl,gk,g1,_,h1,_⟩;have hs1:SliceIs w1 v1 (l.map Int.ofNat):=h1.know (Q:=fun W=>SliceIs W v1 (l.map Int.ofNat)) fun W o hh=>hh.2.slice
 have ga:SliceIs w1 (.slice a zs.length c) zs:=h1.know (Q:=fun W=>SliceIs W (.slice a zs.length c) zs) fun W o hh=>HZ.out _ _ hh.1
 have g3:=Hd (Znv _ _ _ _ w1 hs1 ga (by rw[List.length_map];omega) (by rw[g8.out];omega));have gf:=Hd (show Za1 (l.map Int.ofNat)=true/\(l.map Int.ofNat).length=zs.length from ⟨g1,by rw[List.length_map,hl,g8.out]⟩);have g5:=Zv1 g1 ge.out gf.out.2;have g7:Zdh (l.map Int.ofNat) zs=0:=by unfold Zdh;rw[if_pos ⟨g1,ge.out⟩,if_pos gf.out.2]
 have H1:=Hd h1;obtain⟨ss,g4⟩:∃ ss,ss=Zdn (l.map Int.ofNat) zs:=⟨_,rfl⟩;unfold Zgp at g3;rw[g7,<- g4] at g3;rw[<- g4] at g5;have gh:=Hd g5.2;have gm:ss.length<=64*64:=by
  have h2:=Zr3 (Zau zs) (l.map Int.ofNat);have h3:(l.map Int.ofNat).length*(l.map Int.ofNat).length<=64*64:=Nat.mul_le_mul (by rw[List.length_map];omega) (by rw[List.length_map];omega);omega
 clear h1 hs1 ga g5 g7 g4 g1 gk gg;go_wp2_with fail;refine g3.out.mono ?_;rintro x w2 ⟨v2,rfl,g0,gc⟩;have h2:=H1.out.mine (gi.out.and Zdw.keep) gc (g0.sliceIs (by omega)) fun k hk=>g0.lt k hk
 obtain⟨a2,c2,rfl,-,-⟩:=g0.sliceIs (by omega);have H2:Hid (FxO K n room w0 mb ws0 C o0 wb (fun W o=>(B W o/\Zdw v1 (l.map Int.ofNat) W o)/\Zdw (.slice a2 ss.length c2) ss W o) (fun l'=>l'.map Int.ofNat=(ss.take 0).foldl Zef (l.map Int.ofNat)) fs nx w2):=Hd (h2.imp fun l' _ e=>by rw[e];rfl);clear h2 g0 gc g3;go_wp2_with fail
 go_loopw [4,8,9,22] (fun _ _ _ s22 wr=>∃ i:Nat,i<=ss.length/\s22=.int .i64 i/\Hid (FxO K n room w0 mb ws0 C o0 wb (fun W o=>(B W o/\Zdw v1 (l.map Int.ofNat) W o)/\Zdw (.slice a2 ss.length c2) ss W o) (fun l'=>l'.map Int.ofNat=(ss.take i).foldl Zef (l.map Int.ofNat)) fs nx wr)) (fun _ _ _ s22 _=>ss.length-(intOf s22).toNat)
 case atStart=>exact⟨0,Nat.zero_le _,rfl,H2⟩
 case round =>
  clear H2;obtain⟨i,hi,rfl,HI⟩:=hrel
  by_cases g2:i<ss.length
  .
   have gn:(i:Int)<ss.length:=by omega
   have gj:SliceIs wr (.slice a2 ss.length c2) ss:=HI.out.know (Q:=fun W=>SliceIs W (.slice a2 ss.length c2) ss) fun W o hh=>hh.2.slice
   obtain⟨a3,c3,e3,g9,_⟩:=gj;injection e3 with e3 _ e4
   subst e3 e4;obtain⟨b,off,rfl,hc⟩:=g9.cells i g2;obtain⟨q1,q2⟩:=gh.out.1 (at0 ss i) (by rw[Za8 g2];exact List.getElem_mem _);obtain⟨k,hk⟩:∃ k:Nat,at0 ss i=(k:Int):=⟨(at0 ss i).toNat,by omega⟩;rw[hk] at hc;have g6:k+1<n:=by rw[<- g8.out];omega
   have HS:=Hd (gl.out _ ((gi.out.and Zdw.keep).and Zdw.keep) _ (fun l'=>l'.map Int.ofNat=(ss.take (i+1)).foldl Zef (l.map Int.ofNat)) wr k HI.out g6 (fun l' hl' e=>by
    rw[Zvj (by rw[hl'];exact g6),e,List.take_succ_eq_append_getElem g2,List.foldl_append,List.foldl_cons,List.foldl_nil,<- Za8 g2,hk]))
   clear g9 q1 q2 hk g6 HI;go_wp2_with fail;refine HS.out.mono ?_;rintro x w3 ⟨rfl,h3⟩;have H3:=Hd h3;clear h3 HS hc;go_wp2_with fail;go_roundw
   case rel=>exact⟨i+1,by omega,by go_num,H3⟩
   case measure=>simp[intOf];omega
  .
   obtain rfl:i=ss.length:=by omega
   have HF:=Hd ((HI.out.withB (B':=B) fun o m V _ hh=>hh.1.1).imp (P':=fun l=>l.map Int.ofNat=zs) fun l' _ e=>by rw[e,List.take_length];exact gh.out.2);clear HI;go_wp2_with fail;go_ret;exact⟨rfl,HF.out⟩
end
open Go.RowKit
section
variable {K:Law}{n room:Nat}{w0 w W w' wb:World}{mb gb:Nat}{fs r:List (Int×BF)}{nx:Int}{o0:Own}{ws0:List Ev}{C:Nat->Prop}{B:World->Own->Prop}{P P':List Nat->Prop}{lv v:Value}{gs:List (List Int)}
theorem Zwt (hB:Zf1 B)(h:FxO K n room w0 mb ws0 C o0 wb B P fs nx W)(hn:nx<=549755813888)(hr:3*(fs.length*2^n)<=room){zs:List Int}(hz:∀ W o,B W o->SliceIs W v zs)(hzr:Za1 zs=true)(hzl:zs.length=n) :
 Calls prog 126 #[.pointer (some ⟨mb,0,none⟩),v] W fun x w'=>x=.returned (.int .i64 0)/\FxO K n room w0 mb ws0 C o0 wb B (fun l=>l.map Int.ofNat=zs) fs nx w':=by
 have hn64:n<=64:=by obtain⟨o,m,V,_,_,h3,_⟩:=h;have:=h3.ok.store.small;rw[h3.vars] at this;exact this
 have HV:=Hd h.vars;have g2:Hid (∀ w',Below W.heap.size W w'->Calls prog 179 #[.pointer (some ⟨mb,0,none⟩),v] w' fun x w'=>x=.returned (.int .i64 0)/\FxO K n room w0 mb ws0 C o0 wb B (fun l=>l.map Int.ofNat=zs) fs nx w'):=Hd fun w' hb=>Zuz hB (h.below hB hb) hn hr hz hzr hzl
 have hs:SliceIs W v zs:=h.know (Q:=fun W=>SliceIs W v zs) fun W o hh=>hz W o hh
 obtain⟨a,c,rfl,g0,_⟩:=hs;have HZ:=Hd g0;have HR:=Hd hzr;subst hzl;clear h hB hz g0 hzr hr
 go_enter func126,ntmps126
 go_wp2_with fail;refine HV.out.mono ?_;rintro x w' ⟨rfl,rfl⟩;go_wp2_with fail;refine(Zbj _ _ zs _ HZ.out (by omega)).mono ?_;rintro e w1 ⟨rfl,g1⟩;rw[HR.out];have HB2:=Hd (g2.out w1 g1);clear g1 g2;go_wp2_with fail;refine HB2.out.mono ?_;rintro x w2 ⟨rfl,h2⟩;have H2:=Hd h2;clear h2 HB2;go_wp2_with fail;go_ret;exact⟨rfl,H2.out⟩
theorem Zlt {pl:List Nat}{i:Nat}(hi:i<pl.length):(gather gs (pl.take i)).length+(grp gs pl[i]).length<=(gather gs pl).length:=by
 have e:=Zf5 (gs:=gs) hi;rw[e];simp only[List.length_append];omega
theorem Zjz {pl:List Nat}{i:Nat}(hi:i<pl.length):gather gs (pl.take (i+1))=gather gs (pl.take i)++grp gs pl[i]:=by
 unfold gather;rw[List.take_succ_eq_append_getElem hi,List.flatMap_append];simp
theorem Zq5 (hB:Zf1 B)(h:FxO K n room w0 mb ws0 C o0 wb B P fs nx W)(hg:∀ W o,B W o->GrB mb gb lv gs W o)(hn:nx<=549755813888)(hr:3*(fs.length*2^n)<=room){pl:List Nat}(hv:∀ W o,B W o->SliceIs W v (pl.map Int.ofNat))(hpl:∀ j∈pl,j<gs.length)(hp3:pl.length<=3000)(hgl:gs.length<=3000)(hz:(gather gs pl).length=n)(hzr:Za1 (gather gs pl)=true) :
 Calls prog 64 #[.pointer (some ⟨gb,0,none⟩),v] W fun x w'=>x=.returned (.int .i64 0)/\FxO K n room w0 mb ws0 C o0 wb B (fun l=>l.map Int.ofNat=gather gs pl) fs nx w':=by
 have hn64:n<=64:=by obtain⟨o,m,V,_,_,h3,_⟩:=h;have:=h3.ok.store.small;rw[h3.vars] at this;exact this
 have gh:∃ o,GrB mb gb lv gs W o:=by obtain⟨o,m,V,_,_,_,h4⟩:=h;exact⟨o,hg _ _ h4⟩
 have hs:SliceIs W v (pl.map Int.ofNat):=h.know (Q:=fun W=>SliceIs W v (pl.map Int.ofNat)) fun W o hh=>hv W o hh
 obtain⟨og,g5⟩:=gh;obtain⟨q0,q1,fz⟩:=cells2 g5.1.1;obtain⟨al,cl,rfl,_⟩:=g5.2.is.slice;obtain⟨a,c,rfl,g8,_⟩:=hs;rw[List.length_map];have HS:=Hd g5.2.is;have HZ:=Hd g8;have gl:=Hd hpl;have gn:=Hd hz;have ge:Hid (∀ w' v',Below W.heap.size W w'->OwnI w' W.heap.size v' (gather gs pl)->Calls prog 126 #[.pointer (some ⟨mb,0,none⟩),v'] w' fun x w'=>x=.returned (.int .i64 0)/\FxO K n room w0 mb ws0 C o0 wb B (fun l=>l.map Int.ofNat=gather gs pl) fs nx w'):=Hd fun w' v' hb ho =>
  (Zwt (hB.and Zdw.keep) (h.mine hB hb (ho.sliceIs (by omega)) fun k hk=>ho.lt k hk) hn hr (fun W o hh=>hh.2.slice) hzr hz).mono fun x w2 ⟨h1,h2⟩=>⟨h1,h2.withB fun o m V _ hh=>hh.1⟩
 clear h hB hg hv g8 hpl g5 hr hz hzr
 go_enter func64,ntmps64
 go_wp2_with fail
 go_loopw [5,7,10] (fun s5 _ s10 wx=>∃ i:Nat,i<=pl.length/\s10=.int .i64 i/\Hid (OwnI wx W.heap.size s5 (gather gs (pl.take i)))/\Hid (Below W.heap.size W wx)) (fun _ _ s10 _=>pl.length-(intOf s10).toNat)
 case atStart=>exact⟨0,Nat.zero_le _,rfl,Hd (by rw[List.take_zero];exact Zgd _ _),Hd (Below.refl _ _)⟩
 case round =>
  obtain⟨i,hi,rfl,HO,g0⟩:=hrel
  by_cases g1:i<pl.length
  .
   have gr:(i:Int)<pl.length:=by omega
   obtain⟨bv,ov,ea,gc⟩:=(HZ.out.below g0.out).cells i (by rw[List.length_map];exact g1);subst ea;rw[Zfj g1] at gc;obtain⟨j,hj⟩:∃ j,j=pl[i]:=⟨_,rfl⟩;have ga:pl.getD i 0=j:=by rw[hj];simp[List.getD,g1]
   rw[ga] at gc;have gg:j<gs.length:=gl.out j (by rw[hj];exact List.getElem_mem _);have gq:(j:Int)<(gs.length:Int):=by omega
   obtain⟨bl,ol,c',aj,cj,e1,gd,g3,gf⟩:=(HS.out.below g0.out).elem gg;injection e1 with e1 _ e3
   subst e1 e3;rw[show gs.getD j []=grp gs j from rfl] at gd g3;have g2:=Zlt (gs:=gs) g1;have g4:=Zjz (gs:=gs) g1;rw[<- hj] at g2 g4;rw[gn.out] at g2;obtain⟨gj,g9⟩:∃ x,x=grp gs j:=⟨_,rfl⟩;rw[<- g9] at gd g3 g2 g4;have gi:=Hd g3;have gk:=Hd g4;have gm:=Hd g2;have c1:=(g0.out.cell (p:=⟨gb,1,none⟩) (Zaa q1)).trans q1;clear hj ga g3 g9 g2 g4;go_wp2_with (at_builtin;refine Zcn rfl _ _ rfl W.heap.size W _ (gather gs (pl.take i)) gj aj cj rfl rfl (by exact HO.out) (by exact gi.out) (by have:=gm.out;omega) g0.out.size g0.out gf ?_;intro v1 w1 g6 g7 go gp);go_roundw
   case rel=>exact⟨i+1,by omega,by go_num,Hd (by rw[gk.out];exact g6),Hd g7⟩
   case measure=>simp[intOf];omega
  .
   obtain rfl:i=pl.length:=by omega
   have HT:=Hd (ge.out wr u5 g0.out (by have:=HO.out;rwa [List.take_length] at this));have c0:=(g0.out.cell (p:=⟨gb,0,none⟩) (Zaa q0)).trans q0;clear HO g0 ge;go_wp2_with fail;refine HT.out.mono ?_;rintro x w2 ⟨rfl,h2⟩;have H2:=Hd h2;clear h2 HT;go_wp2_with fail;go_ret;exact⟨rfl,H2.out⟩
theorem Ze0 (hB:Zf1 B)(h:FxO K n room w0 mb ws0 C o0 wb B P fs nx W)(hg:∀ W o,B W o->GrB mb gb lv gs W o)(hw:Zgr gs n)(hgl:gs.length<=3000)(hn:nx<=549755813888)(hr:3*(fs.length*2^n)<=room) :
 Calls prog 17 #[.pointer (some ⟨gb,0,none⟩)] W fun x w'=>x=.returned (.int .i64 0)/\∃ (l pl:List Nat),l.length=n/\P l/\Za1 (l.map Int.ofNat)=true/\Placed gs (levZ (l.map Int.ofNat)) pl/\FxO K n room w0 mb ws0 C o0 wb B (fun l=>l.map Int.ofNat=gather gs pl) fs nx w':=by
 have hn64:n<=64:=by obtain⟨o,m,V,_,_,h3,_⟩:=h;have:=h3.ok.store.small;rw[h3.vars] at this;exact this
 have g1:=Hd (Zt4 hB h hg hw hgl hn64);have g0:Hid (∀ w' (v:Value) (l pl:List Nat),Placed gs (levZ (l.map Int.ofNat)) pl->pl.length<=3000->FxO K n room w0 mb ws0 C o0 wb (fun W o=>B W o/\Zdw v (pl.map Int.ofNat) W o) (fun l'=>l'=l) fs nx w'->Calls prog 64 #[.pointer (some ⟨gb,0,none⟩),v] w' fun x w'=>x=.returned (.int .i64 0)/\FxO K n room w0 mb ws0 C o0 wb B (fun l=>l.map Int.ofNat=gather gs pl) fs nx w'):=Hd fun w' v l pl hp hl hh=>by
  obtain⟨h1,h2⟩:=Zgy hw hp;exact(Zq5 (hB.and Zdw.keep) hh (fun W o hb=>hg W o hb.1) hn hr (fun W o hb=>hb.2.slice) (fun j hj=>((hp.mem j).1 hj).1) hl hgl h1 h2).mono fun x w2 ⟨q1,q2⟩=>⟨q1,q2.withB fun o m V _ hb=>hb.1⟩
 clear h hB hg hr hw hn
 go_enter func17,ntmps17
 go_wp2_with fail;refine g1.out.mono ?_;rintro x w1 ⟨v,l,pl,rfl,h1,h2,h3,h4,h5,h6⟩;have HT:=Hd (g0.out w1 v l pl h4 h5 h6);have HK:=Hd (show l.length=n/\P l/\Za1 (l.map Int.ofNat)=true/\Placed gs (levZ (l.map Int.ofNat)) pl from ⟨h1,h2,h3,h4⟩);clear h1 h2 h3 h4 h5 h6 g1 g0;go_wp2_with fail;refine HT.out.mono ?_;rintro x w2 ⟨rfl,hh⟩;have H2:=Hd hh;clear hh HT;go_wp2_with fail;go_ret;exact⟨rfl,l,pl,HK.out.1,HK.out.2.1,HK.out.2.2.1,HK.out.2.2.2,H2.out⟩
end
open Go.RowKit
theorem Zmw {a b:Option Addr}{c d:Nat}{xs ys:List Int}{W:World}(hx:Za4 W a xs)(hy:Za4 W b ys)(hl:xs.length<=1000000) :
 Calls prog 27 #[.slice a xs.length c,.slice b ys.length d] W fun x w'=>x=.returned (.bool (decide (xs=ys)))/\Below W.heap.size W w':=by
 have HX:=Hd hx;have HY:=Hd hy;clear hx hy
 by_cases g0:xs.length=ys.length
 .
  have HL:=Hd g0;have g4:((xs.length:Int) != (ys.length:Int))=false:=by rw[g0];simp
  obtain⟨L,hL⟩:∃ L,L=xs.length:=⟨_,rfl⟩;have g6:=Hd hL;rw[<- g0] at g4 ⊢;rw[<- hL] at hl g4 ⊢;clear g0 hL
  go_enter func27,ntmps27
  go_wp2_with fail
  go_loopw [4,5] (fun _ s5 wx=>∃ i:Nat,i<=L/\s5=.int .i64 i/\Hid (Below W.heap.size W wx)/\Hid (∀ j,j<i->at0 xs j=at0 ys j)) (fun _ s5 _=>L-(intOf s5).toNat)
  case atStart=>exact⟨0,Nat.zero_le _,rfl,Hd (Below.refl _ _),Hd fun j hj=>by omega⟩
  case round =>
   obtain⟨i,hi,rfl,HB,HE⟩:=hrel
   by_cases g7:i<L
   .
    have ga:(i:Int)<(L:Int):=by omega
    obtain⟨wz,g3⟩:∃ w,w=wr.drew:=⟨_,rfl⟩;have g5:=Hd g3;have g2:Hid (Below W.heap.size W wz):=Hd (by rw[g3];exact HB.out.trans ((Zaf wr 1).mono HB.out.size));obtain⟨ba,oa,ea,x1⟩:=(HX.out.below g2.out).cells i (by rw[<- g6.out];exact g7);obtain⟨bb,ob,eb,y1⟩:=(HY.out.below g2.out).cells i (by rw[<- HL.out,<- g6.out];exact g7);subst ea eb;obtain⟨u,hu⟩:∃ u,u=at0 xs i:=⟨_,rfl⟩;obtain⟨v,hv⟩:∃ v,v=at0 ys i:=⟨_,rfl⟩;rw[<- hu] at x1;rw[<- hv] at y1;have HU:=Hd hu;have g8:=Hd hv;clear hu hv HB g3;go_upto_region 6 with fail;refine Zam (fun w':World=>w'.cell? ⟨ba,oa+i,none⟩=some (.int .i64 u)/\w'.cell? ⟨bb,ob+i,none⟩=some (.int .i64 v)) false 9 [(0,false),(1,false),(2,false),(3,false),(4,false),(5,false),(6,false),(7,false),(8,false)] (by kernel_rfl) (by kernel_rfl) (by rw[<- g5.out];exact⟨x1,y1⟩) ?_;simp only[planned,Zcc]
    iterate 9
     refine Zaj rfl ?_;apply Exists.intro;refine⟨fun w' hw=>?_,?_⟩
     . obtain⟨h1,h2⟩:=hw;go_simp;rfl
     simp only[Zae]
    refine Zb8 ?_;rw[<- g5.out];clear g5 x1 y1
    by_cases g1:u=v
    .
     have hb:(u != v)=false:=by simp[g1]
     have g9:Hid (∀ j,j<i+1->at0 xs j=at0 ys j):=Hd fun j hj=>by
      rcases Nat.lt_or_ge j i with c|c
      . exact HE.out j c
      .
       obtain rfl:j=i:=by omega
       rw[<- HU.out,<- g8.out];exact g1
     clear g1 HE;go_wp2_with fail;go_roundw
     case rel=>exact⟨i+1,by omega,by go_num,g2,g9⟩
     case measure=>simp[intOf];omega
    .
     have hb:(u != v)=true:=by simp[g1]
     have HF:Hid (decide (xs=ys)=false):=Hd (decide_eq_false fun e=>g1 (by rw[HU.out,g8.out,e]));clear g1 HE;go_wp2_with fail;go_ret;exact⟨by rw[HF.out];rfl,g2.out⟩
   .
    obtain rfl:i=L:=by omega
    have HF:Hid (decide (xs=ys)=true):=Hd (decide_eq_true (Zex HL.out fun k hk=>HE.out k (by rw[g6.out];exact hk)));clear HE;go_wp2_with fail;go_ret;exact⟨by rw[HF.out];rfl,HB.out⟩
 .
  have g4:((xs.length:Int) != (ys.length:Int))=true:=by simp;omega
  have HF:Hid (decide (xs=ys)=false):=Hd (decide_eq_false fun e=>g0 (by rw[e]))
  go_enter func27,ntmps27
  go_wp2_with fail;go_ret;exact⟨by rw[HF.out];rfl,Below.refl _ _⟩
theorem Zlc {u v:Value}{xs ys:List Int}{W:World}(hx:SliceIs W u xs)(hy:SliceIs W v ys)(hl:xs.length<=1000000) :
 Calls prog 27 #[u,v] W fun x w'=>x=.returned (.bool (decide (xs=ys)))/\Below W.heap.size W w':=by
 obtain⟨a,c,rfl,h1,_⟩:=hx;obtain⟨b,d,rfl,h2,_⟩:=hy;exact Zmw h1 h2 hl
theorem Zmx {u v:Value}{gs hs:List (List Int)}{W:World}(hx:Zco W u gs)(hy:Zco W v hs)(hl:gs.length<=1000000)(hg:∀ g∈gs,g.length<=1000000) :
 Calls prog 22 #[u,v] W fun x w'=>x=.returned (.bool (decide (gs=hs)))/\Below W.heap.size W w':=by
 have HX:=Hd hx;have HY:=Hd hy;have HG:=Hd hg;obtain⟨a,c,rfl,_⟩:=hx.slice;obtain⟨b,d,rfl,_⟩:=hy.slice;clear hx hy hg
 by_cases g0:gs.length=hs.length
 .
  have HL:=Hd g0;have g8:((gs.length:Int) != (hs.length:Int))=false:=by rw[g0];simp
  obtain⟨L,hL⟩:∃ L,L=gs.length:=⟨_,rfl⟩;have g3:=Hd hL;rw[<- g0] at g8 ⊢;rw[<- hL] at hl g8 ⊢;clear g0 hL
  go_enter func22,ntmps22
  go_wp2_with fail
  go_loopw [4,5] (fun _ s5 wx=>∃ i:Nat,i<=L/\s5=.int .i64 i/\Hid (Below W.heap.size W wx)/\Hid (∀ j,j<i->gs.getD j []=hs.getD j [])) (fun _ s5 _=>L-(intOf s5).toNat)
  case atStart=>exact⟨0,Nat.zero_le _,rfl,Hd (Below.refl _ _),Hd fun j hj=>by omega⟩
  case round =>
   obtain⟨i,hi,rfl,HB,HE⟩:=hrel
   by_cases g9:i<L
   .
    have gk:(i:Int)<(L:Int):=by omega
    obtain⟨wz,gd⟩:∃ w,w=wr.drew:=⟨_,rfl⟩;have gc:=Hd gd;have g2:Hid (Below W.heap.size W wz):=Hd (by rw[gd];exact HB.out.trans ((Zaf wr 1).mono HB.out.size));obtain⟨ba,oa,c',a1,c1,ea,x1,g5,_⟩:=(HX.out.below g2.out).elem (i:=i) (by rw[<- g3.out];exact g9);obtain⟨bb,ob,d',b1,d1,eb,y1,g4,_⟩:=(HY.out.below g2.out).elem (i:=i) (by rw[<- HL.out,<- g3.out];exact g9);injection ea with ea _ _
    injection eb with eb _ _
    subst ea eb;have ga:(gs.getD i []).length<=1000000:=by
     have gi:i<gs.length:=by rw[<- g3.out];exact g9
     have e:gs.getD i []=gs[i]:=by simp[List.getD,gi]
     rw[e];exact HG.out _ (List.getElem_mem _)
    obtain⟨xs,g7⟩:∃ u,u=gs.getD i []:=⟨_,rfl⟩;obtain⟨ys,g6⟩:∃ v,v=hs.getD i []:=⟨_,rfl⟩;rw[<- g7] at x1 g5 ga;rw[<- g6] at y1 g4;have HU:=Hd g7;have ge:=Hd g6;have gf:=Hd (Zmw (c:=c1) (d:=d1) g5 g4 ga);have gl:=Hd y1;clear g7 g6 HB g5 g4 ga;go_upto_region 6 with fail;refine Zam (fun w':World=>(w'.cell? ⟨ba,oa+i,none⟩=some (.slice a1 xs.length c1)/\w'.cell? ⟨bb,ob+i,none⟩=some (.slice b1 ys.length d1))/\Hid (Below wz.heap.size wz w')) false 10 [(0,false),(1,false),(2,false),(3,false),(4,false),(5,false),(6,false),(7,false),(8,true),(9,false)] (by kernel_rfl) (by kernel_rfl) (by rw[<- gc.out];exact⟨⟨x1,y1⟩,Hd (Below.refl _ _)⟩) ?_;simp only[planned,Zcc]
    iterate 8
     refine Zaj rfl ?_;apply Exists.intro;refine⟨fun w' hw=>?_,?_⟩
     . obtain⟨⟨h1,h2⟩,_⟩:=hw;go_simp;rfl
     simp only[Zae]
    refine Zkb (v:=.bool (decide (xs=ys))) rfl (by go_simp;exact⟨rfl,rfl⟩) (by rw[<- gc.out];exact gf.out.mono fun x w' ⟨q1,q2⟩=>⟨q1,⟨(q2.cell (p:=⟨ba,oa+i,none⟩) (Zaa x1)).trans x1,(q2.cell (p:=⟨bb,ob+i,none⟩) (Zaa y1)).trans y1⟩,Hd q2⟩) ?_;rintro w3 ⟨-,gh⟩;simp only[Zae]
    iterate 1
     refine Zaj rfl ?_;apply Exists.intro;refine⟨fun w' hw=>?_,?_⟩
     . obtain⟨⟨h1,h2⟩,_⟩:=hw;go_simp;rfl
     simp only[Zae]
    refine Zb8 ?_;have gg:=Hd (g2.out.trans (gh.out.mono g2.out.size));clear gc x1 y1 gf gh g2
    by_cases g1:xs=ys
    .
     rw[decide_eq_true g1];have gj:Hid (∀ j,j<i+1->gs.getD j []=hs.getD j []):=Hd fun j hj=>by
      rcases Nat.lt_or_ge j i with c|c
      . exact HE.out j c
      .
       obtain rfl:j=i:=by omega
       rw[<- HU.out,<- ge.out];exact g1
     clear g1 HE;go_wp2_with fail;go_roundw
     case rel=>exact⟨i+1,by omega,by go_num,gg,gj⟩
     case measure=>simp[intOf];omega
    . rw[decide_eq_false g1];have HF:Hid (decide (gs=hs)=false):=Hd (decide_eq_false fun e=>g1 (by rw[HU.out,ge.out,e]));clear g1 HE;go_wp2_with fail;go_ret;exact⟨by rw[HF.out];rfl,gg.out⟩
   .
    obtain rfl:i=L:=by omega
    have HF:Hid (decide (gs=hs)=true):=Hd (decide_eq_true (List.ext_getElem HL.out fun k h1 h2=>by
     have:=HE.out k (by rw[g3.out];exact h1);simpa [List.getD,h1,h2] using this))
    clear HE;go_wp2_with fail;go_ret;exact⟨by rw[HF.out];rfl,HB.out⟩
 .
  have g8:((gs.length:Int) != (hs.length:Int))=true:=by simp;omega
  have HF:Hid (decide (gs=hs)=false):=Hd (decide_eq_false fun e=>g0 (by rw[e]))
  go_enter func22,ntmps22
  go_wp2_with fail;go_ret;exact⟨by rw[HF.out];rfl,Below.refl _ _⟩
theorem Zrt {a:Option Addr}{c:Nat}{zs:List Int}{x:Int}{W:World}(h:Za4 W a zs)(hl:zs.length<=1000000) :
 Calls prog 77 #[.slice a zs.length c,.int .i64 x] W fun e w'=>e=.returned (.int .i64 (Zau zs x))/\W=w':=by
 have HC:=Hd h;clear h
 go_enter func77,ntmps77
 go_wp2_with fail
 go_loopw [4,5] (fun _ s5 wx=>∃ k:Nat,k<=zs.length/\s5=.int .i64 k/\Hid (W=wx)/\Hid (∀ j,j<k->at0 zs j≠x)) (fun _ s5 _=>zs.length-(intOf s5).toNat)
 case atStart=>exact⟨0,Nat.zero_le _,rfl,Hd rfl,Hd fun j hj=>by omega⟩
 case round =>
  obtain⟨k,hk,rfl,HW,HR⟩:=hrel;have hw:=HW.out;subst hw;clear HW
  by_cases g1:k<zs.length
  .
   have g3:(k:Int)<zs.length:=by omega
   obtain⟨b,off,rfl,g0⟩:=HC.out.cells k g1;obtain⟨y,hy⟩:∃ y,y=at0 zs k:=⟨_,rfl⟩;rw[<- hy] at g0;have HY:=Hd hy;clear hy
   by_cases hx:y=x
   .
    have H1:(y == x)=true:=by simpa using hx
    have HF:Hid (Zau zs x=(k:Int)):=Hd (Zg6 g1 (by rw[<- HY.out];exact hx) HR.out);clear hx HR;go_wp2_with fail;go_ret;exact⟨by rw[HF.out];rfl,rfl⟩
   .
    have H1:(y == x)=false:=by simpa using hx
    have g2:Hid (∀ j,j<k+1->at0 zs j≠x):=Hd fun j hj=>by
     rcases Nat.lt_or_ge j k with c|c
     . exact HR.out j c
     .
      obtain rfl:j=k:=by omega
      rw[<- HY.out];exact hx
    clear hx HR;go_wp2_with fail;go_roundw
    case rel=>exact⟨k+1,by omega,by go_num,by first|exact Hd rfl|exact Hd trivial,g2⟩
    case measure=>simp[intOf];omega
  .
   obtain rfl:k=zs.length:=by omega
   have HF:Hid (Zau zs x = -1):=Hd (Zla HR.out);clear HR;go_wp2_with fail;go_ret;exact⟨by rw[HF.out];rfl,rfl⟩
theorem Zrv:∀ zs:List Int,∃ ds:List Int,ds.Nodup/\(∀ x,x∈ds↔x∈zs)/\ds.length<=zs.length/\(¬ zs.Nodup->ds.length<zs.length)
 | []=>⟨[],List.nodup_nil,fun _=>Iff.rfl,Nat.le_refl _,fun h=>(h List.nodup_nil).elim⟩
 | z::t=>by
   obtain⟨ds,h1,h2,h3,h4⟩:=Zrv t
   by_cases hz:z∈t
   .
    refine⟨ds,h1,fun x=>?_,by simp;omega,fun _=>by simp;omega⟩;rw[h2,List.mem_cons];constructor
    . exact fun h=>.inr h
    .
     rintro(rfl|h)
     . exact hz
     . exact h
   .
    refine⟨z::ds,List.nodup_cons.2 ⟨fun h=>hz ((h2 z).1 h),h1⟩,fun x=>by rw[List.mem_cons,List.mem_cons,h2],by simp;omega,fun hn=>?_⟩;have:=h4 fun hh=>hn (List.nodup_cons.2 ⟨hz,hh⟩)
    simp;omega
theorem Znp {zs os:List Int}(hm:∀ x,x∈os↔x∈zs)(hs:os.Pairwise (· < ·)):os.length=zs.length↔zs.Nodup:=by
 have hn:os.Nodup:=hs.imp fun h e=>by omega
 constructor
 .
  intro hl;apply Classical.byContradiction;intro hz;obtain⟨ds,h1,h2,h3,h4⟩:=Zrv zs;have hp:os.Perm ds:=(List.perm_ext_iff_of_nodup hn h1).2 fun x=>(hm x).trans (h2 x).symm
  have:=hp.length_eq;have:=h4 hz;omega
 . exact fun hz=>((List.perm_ext_iff_of_nodup hn hz).2 hm).length_eq
theorem Zkp {v:Value}{gs:List (List Int)}{n:Nat}{W:World}(hl:Zco W v gs)(hsm:gs.flatten.length<=1000)(hgl:gs.length<=1000) :
 Calls prog 21 #[v,.int .i64 (n:Nat)] W fun x w'=>∃ e,x=.returned (.int .i64 e)/\Zeu gs n e/\Below W.heap.size W w':=by
 have HL:=Hd hl;obtain⟨a,c,rfl,_⟩:=hl.slice;clear hl
 go_enter func21,ntmps21
 go_upto_region 2 with fail;obtain⟨w1,g6⟩:∃ w,w=W.alloc (.cells #[] 3):=⟨_,rfl⟩;have gj:Hid (OwnI w1 W.heap.size (.slice (some ⟨W.heap.size,0,none⟩) 0 0) []):=Hd (by rw[g6];exact Zhk W W.heap.size (Nat.le_refl _));have gk:Hid (Below W.heap.size W w1):=Hd (by rw[g6];exact Zad _ _);rw[<- g6];clear g6;go_wp2_with fail
 go_loopw [5,6] (fun s5 s6 wr=>∃ i:Nat,i<=gs.length/\s6=.int .i64 i/\Hid (OwnI wr W.heap.size s5 (gs.take i).flatten/\Below W.heap.size W wr)) (fun _ s6 _=>gs.length-(intOf s6).toNat)
 case atStart=>exact⟨0,Nat.zero_le _,rfl,Hd ⟨gj.out,gk.out⟩⟩
 case round =>
  clear gj gk;obtain⟨i,hi,rfl,HI⟩:=hrel
  by_cases g9:i<gs.length
  .
   have gA:(i:Int)<gs.length:=by omega
   obtain⟨b,off,c',a2,c2,e1,hc,hz,gq⟩:=(HL.out.below HI.out.2).elem g9;injection e1 with e1 _ e3
   subst e1 e3;have g0:=Zey g9;have ga:=Zb1 g9;obtain⟨gi,ge⟩:∃ x,x=gs.getD i []:=⟨_,rfl⟩;rw[<- ge] at hc hz g0 ga;have HZ:=Hd hz;have g2:=Hd g0;have gv:=Hd ga;clear hz g0 ga ge;go_wp2_with (at_builtin;refine Zcn rfl _ _ rfl W.heap.size W _ (gs.take i).flatten gi a2 c2 rfl rfl (by exact HI.out.1) (by exact HZ.out) (by have:=g2.out;omega) HI.out.2.size HI.out.2 gq ?_;intro v1 w1 gc gd gw gx);go_roundw
   case rel=>exact⟨i+1,by omega,by go_num,Hd ⟨by rw[gv.out];exact gc,gd⟩⟩
   case measure=>simp[intOf];omega
  .
   obtain rfl:i=gs.length:=by omega
   obtain⟨wA,gn⟩:∃ w,w=wr:=⟨_,rfl⟩;subst gn;obtain⟨fl,g0⟩:∃ fl,fl=gs.flatten:=⟨_,rfl⟩;have g5:=HI.out.1;rw[Zed,<- g0] at g5;rw[<- g0] at hsm;have g2:=Hd g0;obtain⟨a6,c6,e6,g7,gp⟩:=g5.sliceIs (by omega);subst e6;have gt:=Hd g7;have HB:=Hd HI.out.2;have gh:=Hd (Zr8 a6 c6 fl wA (by omega) g7);clear g5 g7 g0 gp HI;go_wp2_with fail
   go_loopw [4,7] (fun _ s7 wx=>∃ j:Nat,j<=fl.length/\s7=.int .i64 j/\Hid (wA=wx)/\Hid (∀ x∈fl.take j,0<=x/\x<(n:Int))) (fun _ s7 _=>fl.length-(intOf s7).toNat)
   case atStart=>exact⟨0,Nat.zero_le _,rfl,Hd rfl,Hd fun x hx=>by simp at hx⟩
   case round =>
    obtain⟨j,hj,rfl,HW,HR⟩:=hrel;have hw:=HW.out;subst hw;clear HW
    by_cases g3:j<fl.length
    .
     have gz:(j:Int)<fl.length:=by omega
     obtain⟨b6,o6,ea,gr⟩:=gt.out.cells j g3;subst ea;obtain⟨x,hx⟩:∃ x,x=at0 fl j:=⟨_,rfl⟩;rw[<- hx] at gr;have g8:x∈fl:=by rw[hx,Za8 g3];exact List.getElem_mem _
     have HX:=Hd hx;have g1:Hid (x<0\/x>=(n:Int)->Zeu gs n 9):=Hd fun hb=>.inl ⟨rfl,Zwl (by rw[<- g2.out];exact g8) hb⟩
     clear hx g8
     by_cases gm:x<0
     . have HF:=Hd (g1.out (.inl gm));clear g1;go_wp2_with fail;go_ret;exact⟨9,rfl,HF.out,HB.out⟩
     by_cases gl:x>=(n:Int)
     . have HF:=Hd (g1.out (.inr gl));clear g1;go_wp2_with fail;go_ret;exact⟨9,rfl,HF.out,HB.out⟩
     have gu:Hid (∀ x∈fl.take (j+1),0<=x/\x<(n:Int)):=Hd fun y hy=>by
      rw[List.take_succ_eq_append_getElem g3,<- Za8 g3] at hy;rcases List.mem_append.1 hy with h|h
      . exact HR.out y h
      . rw[List.mem_singleton] at h;rw[h,<- HX.out];omega
     clear g1;go_wp2_with fail;go_roundw
     case rel=>exact⟨j+1,by omega,by go_num,by first|exact Hd rfl|exact Hd trivial,gu⟩
     case measure=>simp[intOf];omega
    .
     obtain rfl:j=fl.length:=by omega
     have gg:Hid (InG gs n):=Hd (by have:=HR.out;rw[List.take_length,g2.out] at this;exact this);clear HR;go_wp2_with fail;refine gh.out.mono ?_;rintro y w2 ⟨u,os,rfl,ho,⟨hm,hs⟩,gy,gf⟩;obtain⟨a7,c7,e7,_,_⟩:=ho.sliceIs (by omega);subst e7;have HN:=Hd (Znp hm hs);have HB2:=Hd (HB.out.trans (gf.mono HB.out.size));clear ho hm hs gf gh
     by_cases g4:os.length=fl.length
     .
      have go:((os.length:Int) != (fl.length:Int))=false:=by rw[g4];simp
      have HF:Hid (Zeu gs n 0):=Hd (.inr (.inr ⟨rfl,gg.out,by rw[<- g2.out];exact HN.out.1 g4⟩));clear g4;go_wp2_with fail;go_ret;exact⟨0,rfl,HF.out,HB2.out⟩
     .
      have go:((os.length:Int) != (fl.length:Int))=true:=by simp;omega
      have HF:Hid (Zeu gs n 6):=Hd (.inr (.inl ⟨rfl,gg.out,by rw[<- g2.out];exact fun h=>g4 (HN.out.2 h)⟩));clear g4;go_wp2_with fail;go_ret;exact⟨6,rfl,HF.out,HB2.out⟩
open Go.RowKit
theorem Zma {T ST:TypeId}{z:Value}{b:Nat}(E:Zod T ST z b){ops:Array Oper}{rest:List Oper}{o:Oper}{a:Act}{Q:Exit->Act->World->Prop}{wr:World}(hgd:o.guard=none)(s x:Operand)
 (ho:o.op=.call { callee:=.builtin .append,args:=#[s,x],argTypes:=#[ST,ST] })
 (base:Nat) (w0:World) (v:Value) (xs ys:List Value) (ao:Option Addr) (c:Nat) (hs:a.eval s=v) (hx:a.eval x=.slice ao ys.length c)
 (hown:OwnC T wr base v xs) (hys:∀ j (h:j<ys.length),∃ b off,ao=some ⟨b,off,none⟩/\wr.cell? ⟨b,off+j,none⟩=some ys[j]) (h1:∀ u∈ys,u.oneCell'=true) (hlen:xs.length+ys.length<1099511627776) (hbase:base<=wr.heap.size) (hb:Below base w0 wr)
 (hnil:ao=none->c=0)
 (h:∀ v' w',OwnC T w' base v' (xs++ys)->Below base w0 w'->base<=w'.heap.size->Zda v v' wr w'->wpList prog ops Q rest (a.put o.dst v') w') :
 wpList prog ops Q (o::rest) a wr:=by
 obtain⟨i,hi,hz,g3,g5⟩:=info_parts E.info;have g4:=E.small;cases ao with
 | none =>
   have h0:ys=[]:=by
    apply List.eq_nil_of_length_eq_zero;rcases Nat.eq_zero_or_pos ys.length with h0|h0
    . exact h0
    . obtain⟨b,off,hh,_⟩:=hys 0 h0;cases hh
   subst h0;obtain rfl:=hnil rfl;refine wpList_append_own_none (w:=wr) hgd s x ST ho base T i 1 E.under hi v xs.length xs hs hown hx ?_;exact h v wr (by rw[List.append_nil];exact hown) hb hbase ⟨Zjo _ _,.inl rfl⟩
 | some ad =>
   refine wpList_append_own_at (w:=wr) hgd s x ST ho base T i z 1 b E.under hi hz g3 g5 (by rw[E.one];rfl) (by decide)
    v xs.length xs hs hown ad ys.length c ys hx (by simp) ?_ h1 (by unfold maxLen;omega) (by
     have h2:(xs.length+ys.length)*b<=1099511627776*100:=Nat.mul_le_mul (by omega) g4;omega) hbase ?_
   .
    intro j u hj;have g0:j<ys.length:=by
     rcases Nat.lt_or_ge j ys.length with h'|h'
     . exact h'
     . simp[List.getElem?_eq_none h'] at hj
    obtain⟨b,off,g6,hc⟩:=hys j g0;cases g6;rw[List.getElem?_eq_getElem g0] at hj;have hj:=Option.some.inj hj;subst hj;have g2:(⟨b,off,none⟩:Addr).add j=⟨b,off+j,none⟩:=by unfold Addr.add;split<;>simp_all
    rw[g2];exact hc
   .
    intro v' w' h1 h2 _ g1;refine h v' w' ?_ ?_ ?_ ⟨Zch h2,g1.imp id fun e=>⟨_,e,Nat.le_refl _⟩⟩
    . unfold OwnC;rw[List.length_append];exact h1
    . exact hb.grown h2 hbase (fun k hk=>(hown.lt k hk).1)
    . have:=h2.size;omega
theorem SliceIs.empty {W W':World}{v:Value}(h:SliceIs W v []):SliceIs W' v []:=by
 obtain⟨a,c,e,⟨h1,h2⟩,h3⟩:=h;exact⟨a,c,e,⟨h1,fun k hk=>by simp at hk⟩,h3⟩
theorem SliceIs.block {W:World}{v:Value}{zs:List Int}(h:SliceIs W v zs)(hne:zs≠[]){k:Nat}(hk:v.ownBlock=some k):k<W.heap.size:=by
 obtain⟨a,c,rfl,h1,h3⟩:=h;obtain⟨b,off,rfl,hc⟩:=h1.cells 0 (List.length_pos_iff.2 hne);injection hk with hk
 subst hk;exact Zaa hc
theorem Znr {W:World}{v:Value}{zs:List Int}(h:SliceIs W v zs):v.oneCell'=true:=by
 obtain⟨a,c,rfl,_⟩:=h;rfl
def RowG (base:Nat)(v:Value)(gs:List (List Int))(W:World):Prop:=∃ xs,OwnC 23 W base v xs/\Zdx W xs gs/\∀ i (h:i<xs.length) (h2:i<gs.length),gs[i]≠[]->∀ k,xs[i].ownBlock=some k->k<W.heap.size/\v.ownBlock≠some k
section
variable {base:Nat}{v v':Value}{gs:List (List Int)}{W W1 w':World}
theorem RowG.is (h:RowG base v gs W)(hl:gs.length<=9223372036854775807):Zco W v gs:=by
 obtain⟨xs,h1,h2,_⟩:=h;exact Zco.of_own h1 h2 hl
theorem RowG.below (h:RowG base v gs W)(hb:Below W.heap.size W W1):RowG base v gs W1:=by
 obtain⟨xs,h1,h2,h3⟩:=h;exact⟨xs,h1.below hb,h2.below hb,fun i hi g1 g0 k hk=>⟨Nat.lt_of_lt_of_le (h3 i hi g1 g0 k hk).1 hb.size,(h3 i hi g1 g0 k hk).2⟩⟩
theorem Zue {xs:List Value}(h2:Zdx W xs gs)(hk:∀ i (h:i<xs.length) (h2:i<gs.length),gs[i]≠[]->∀ k,xs[i].ownBlock=some k->w'.heap[k]?=W.heap[k]?):Zdx w' xs gs :=
 ⟨h2.len,fun i hi hi2=>by
  by_cases hne:gs[i]=[]
  . have:=h2.at_ i hi hi2;rw[hne] at this ⊢;exact this.empty
  . exact(h2.at_ i hi hi2).same fun k e=>hk i hi hi2 hne k e⟩
theorem RowG.app {xs:List Value}(h1:OwnC 23 W base v xs)(h2:Zdx W xs gs)(h3:∀ i (h:i<xs.length) (h2:i<gs.length),gs[i]≠[]->∀ k,xs[i].ownBlock=some k->k<W.heap.size/\v.ownBlock≠some k){y:Value}{g:List Int}(hy:SliceIs W y g)(hyb:g≠[]->∀ k,y.ownBlock=some k->v.ownBlock≠some k)
 (g1:OwnC 23 w' base v' (xs++[y])) (hs:W.heap.size<=w'.heap.size) (hk:Zda v v' W w'):RowG base v' (gs++[g]) w':=by
 have g6:Zdx W (xs++[y]) (gs++[g]):=h2.snoc hy;have hl:=h2.len;have key:∀ i (h:i<(xs++[y]).length) (h2:i<(gs++[g]).length),(gs++[g])[i]≠[]->∀ k,(xs++[y])[i].ownBlock=some k->k<W.heap.size/\v.ownBlock≠some k:=by
  intro i hi g2 g0 k g3;rcases Nat.lt_or_ge i xs.length with h4|h4
  . rw[List.getElem_append_left (by omega)] at g0;rw[List.getElem_append_left h4] at g3;exact h3 i h4 (by omega) g0 k g3
  .
   have e:i=xs.length:=by simp at hi;omega
   subst e;rw[List.getElem_append_right (by omega)] at g0;rw[List.getElem_append_right (Nat.le_refl _)] at g3;have g4:g≠[]:=by simpa using g0
   have g5:y.ownBlock=some k:=by simpa using g3
   exact⟨hy.block g4 g5,hyb g4 k g5⟩
 refine⟨xs++[y],g1,Zue g6 fun i hi g2 g0 k e=>hk.keep k (key i hi g2 g0 k e).1 (fun e2=>(key i hi g2 g0 k e).2 e2.symm),fun i hi g2 g0 k e=>⟨Nat.lt_of_lt_of_le (key i hi g2 g0 k e).1 hs,hk.ne (key i hi g2 g0 k e).2 (key i hi g2 g0 k e).1⟩⟩
end
theorem Zmn {v:Value}{gs:List (List Int)}{n:Nat}{W:World}(hl:Zco W v gs)(hgl:gs.length<=1000)(hgs:∀ g∈gs,g.length<=1000)(hn:n<=64) :
 Calls prog 23 #[v,.int .i64 (n:Nat)] W fun x w'=>∃ u,x=.returned u/\RowG W.heap.size u (Zd1 gs n) w'/\Below W.heap.size W w':=by
 have HL:=Hd hl;obtain⟨a,c,xs,rfl,gz,gB,gf,gr⟩:=hl;have gJ:=Hd hgs;have gk:=Hd gf;have go:=gf.len;have gK:=Hd gr;obtain⟨fl,gq⟩:∃ fl,fl=gs.flatten:=⟨_,rfl⟩;have gx:=Hd gq;rw[<- go];clear hgs gf gr gq gB
 go_enter func23,ntmps23
 go_wp2_with (at_builtin;refine Zma Zik rfl _ _ rfl W.heap.size W _ [] xs a c rfl rfl (Zen 23 W W.heap.size (Nat.le_refl _)) (fun j hj=>by
  obtain⟨b,off,e,h⟩:=gK.out j hj;exact⟨b,off,e,((Zad W (.cells #[] 23)).cell (p:=⟨b,off+j,none⟩) (Zaa h)).trans h⟩) (fun u hu=>by
  obtain⟨i,hi,rfl⟩:=List.getElem_of_mem hu;exact Znr (gk.out.at_ i hi (by omega))) (by simp;omega) (by simp) (Zad _ _) gz ?_;intro v1 w1 g0 gc hs1 gF;clear gF)
 rw[List.nil_append] at g0
 have gv:Hid (RowG W.heap.size v1 (gs++(Zbn fl 0).map fun v=>[v]) w1):=Hd (by
  rw[show Zbn fl 0=[] from rfl,List.map_nil,List.append_nil];refine⟨xs,g0,gk.out.below gc,fun i hi ga g9 k hk=>?_⟩;have h1:=(gk.out.at_ i hi ga).block g9 hk;exact⟨Nat.lt_of_lt_of_le h1 gc.size,fun e=>by have:=(g0.lt k e).1;omega⟩)
 have gy:=Hd gc;clear g0 gc hs1
 go_loopw [5,6,7,8] (fun s5 s6 _ _ wx=>∃ k:Nat,k<=n/\s6=.int .i64 k/\Hid (RowG W.heap.size s5 (gs++(Zbn fl k).map fun v=>[v]) wx)/\Hid (Below W.heap.size W wx)) (fun _ s6 _ _ _=>n-(intOf s6).toNat)
 case atStart=>exact⟨0,Nat.zero_le _,rfl,gv,gy⟩
 case round =>
  clear gv gy;obtain⟨k,hk,rfl,HI,HB⟩:=hrel
  by_cases gP:k<n
  .
   have gQ:(k:Int)<(n:Int):=by omega
   obtain⟨wo,gD⟩:∃ w,w=wr:=⟨_,rfl⟩;subst gD;go_wp2_with fail
   go_loopw [7,8] (fun s7 s8 wx=>∃ (i:Nat) (bb:Bool),i<=xs.length/\s8=.int .i64 i/\s7=.bool bb/\Hid (wo=wx)/\Hid (bb=true↔(k:Int)∈(gs.take i).flatten)) (fun _ s8 _=>xs.length-(intOf s8).toNat)
   case atStart=>exact⟨0,false,Nat.zero_le _,rfl,rfl,Hd rfl,Hd (by simp)⟩
   case round =>
    obtain⟨i,bb,hi,rfl,rfl,HW,HE⟩:=hrel;have hw:=HW.out;subst hw;clear HW
    by_cases gL:i<xs.length
    .
     have gR:(i:Int)<xs.length:=by omega
     have gh:i<gs.length:=by omega
     obtain⟨b,off,c',a2,c2,e1,hc,hz,gO⟩:=(HL.out.below HB.out).elem gh;injection e1 with e1 _ e3
     subst e1 e3;have gj:=Zb1 gh;have gA:(gs.getD i []).length<=1000:=gJ.out _ (Znf gh);obtain⟨gi,gp⟩:∃ x,x=gs.getD i []:=⟨_,rfl⟩;rw[<- gp] at hc hz gj gA;have HH:=Hd (Zo9 a2 c2 gi (k:Int) wo (by omega) hz);have gw:=Hd gj;clear hz gj gp;cases bb with
     | true =>
       have gm:Hid (true=true↔(k:Int)∈(gs.take (i+1)).flatten):=Hd ⟨fun _=>by rw[gw.out,List.mem_append];exact .inl (HE.out.1 rfl),fun _=>rfl⟩;clear HE HH;go_wp2_with fail;go_roundw
       case rel=>exact⟨i+1,true,by omega,by go_num,rfl,by first|exact Hd rfl|exact Hd trivial,gm⟩
       case measure=>simp[intOf];omega
     | false =>
       go_wp2_with fail;refine HH.out.mono ?_;rintro y w' ⟨rfl,rfl⟩
       have gm:Hid (decide ((k:Int)∈gi)=true↔(k:Int)∈(gs.take (i+1)).flatten):=Hd (by
        rw[gw.out,List.mem_append,decide_eq_true_iff];exact⟨fun h=>.inr h,fun h=>h.elim (fun h=>by have:=HE.out.2 h;cases this) id⟩)
       clear HE HH;go_wp2_with fail;go_roundw
       case rel=>exact⟨i+1,decide ((k:Int)∈gi),by omega,by go_num,rfl,by first|exact Hd rfl|exact Hd trivial,gm⟩
       case measure=>simp[intOf];omega
    .
     obtain rfl:i=xs.length:=by omega
     have HM:Hid (bb=true↔(k:Int)∈fl):=Hd (by have:=HE.out;rw[go,List.take_length,<- gx.out] at this;exact this);clear HE;cases bb with
     | true =>
       have gl:Hid (RowG W.heap.size u5 (gs++(Zbn fl (k+1)).map fun v=>[v]) wo):=Hd (by rw[Zmr (HM.out.1 rfl)];exact HI.out);clear HI HM;go_wp2_with fail;go_roundw
       case rel=>exact⟨k+1,by omega,by go_num,gl,HB⟩
       case measure=>simp[intOf];omega
     | false =>
       have gI:=Hd (Zpr (fl:=fl) (k:=k) fun h=>by have:=HM.out.2 h;cases this);obtain⟨ys,g7,ge,gn⟩:=HI.out;have gN:ys.length<=1064:=by have:=ge.len;have:=Zd2 fl k;rw[List.length_append,List.length_map] at *;omega
       have gd:=Hd g7;have gG:=Hd ge;have gu:=Hd gn;obtain⟨wn,g5⟩:∃ w,w=wo.alloc (.cells #[.int .i64 k] 3):=⟨_,rfl⟩;have gt:Below wo.heap.size wo wn:=by rw[g5];exact Zad _ _
       have gC:wn.heap.size=wo.heap.size+1:=by rw[g5];simp
       have gH:Hid (SliceIs wn (.slice (some ⟨wo.heap.size,0,none⟩) 1 1) [(k:Int)]):=Hd ⟨_,1,rfl,by rw[g5];exact Zi7 wo [(k:Int)] (by simp),fun e=>by cases e⟩;have g6:=Hd gt;have gM:=Hd g5;have gS:=HB.out.size;clear g7 ge gn HI HM gt;go_wp2_with (at_builtin;refine Zby Zik wn rfl _ _ rfl W.heap.size _ ys (.slice (some ⟨wo.heap.size,0,none⟩) 1 1) rfl rfl (by rw[g5]) (by rw[g5];simp) rfl (by exact gd.out.below g6.out) (by omega) (by omega) ?_;intro v5 w5 g8 g1 g2 g3 g4 gg)
       have gl:Hid (RowG W.heap.size v5 (gs++(Zbn fl (k+1)).map fun v=>[v]) w5):=Hd (by
        rw[gI.out,List.map_append,<- List.append_assoc]
        exact RowG.app (gd.out.below g6.out) (gG.out.below g6.out) (fun i hi ga g9 q hq=>⟨Nat.lt_of_lt_of_le (gu.out i hi ga g9 q hq).1 g6.out.size,(gu.out i hi ga g9 q hq).2⟩) gH.out (fun _ q hq e=>by
         have gE:wo.heap.size=q:=by injection hq
         subst gE;have:=(gd.out.lt _ e).2;omega) g8 g4 gg)
       have HB2:Hid (Below W.heap.size W w5):=Hd (Zfr (HB.out.trans (g6.out.mono HB.out.size)) (gd.out.below g6.out) g1 g2 g3 g4 gg (by omega));clear g8 g1 g2 g3 g4 gg g5 gC;go_roundw
       case rel=>exact⟨k+1,by omega,by go_num,gl,HB2⟩
       case measure=>simp[intOf];omega
  .
   obtain rfl:k=n:=by omega
   have HF:Hid (RowG W.heap.size u5 (Zd1 gs k) wr):=Hd (by rw[Zem,<- gx.out];exact HI.out);obtain⟨ys,g7,_⟩:=HI.out;obtain⟨a5,c5,e5,_⟩:=g7.slice;subst e5;clear HI g7;go_wp2_with fail;go_ret;exact⟨_,rfl,HF.out,HB.out⟩
open Go.RowKit
theorem Zpx {zs:List Int}{n:Nat}:Zfm zs n=decide (zs.length=n/\Za1 zs=true):=by
 rw[Bool.eq_iff_iff,decide_eq_true_iff];constructor
 .
  intro h;have hp:=Znu h;have hl:=hp.len;refine⟨hl,(Zbq zs).2 ⟨fun k hk=>?_,fun i hi k hk e=>?_⟩⟩
  . obtain⟨v,hv,e⟩:=hp.lt k (by omega);rw[e];omega
  . have:=hp.inj k i (by omega) (by omega) e;omega
 .
  rintro⟨h1,h2⟩;refine Zsb h1 (fun v hv=>?_) fun i j hi hj e=>Zg9 h2 (by omega) (by omega) e
  obtain⟨k,hk,e⟩:=Zc9 h2 (x:=v) (by omega);exact⟨k,by omega,e⟩
theorem Zti {v u:Value}{gs:List (List Int)}{zs:List Int}{n:Nat}{W:World}(hl:Zco W v gs)(hz:SliceIs W u zs)(hzl:zs.length<=1000)(hgl:gs.length<=1000)(hgs:∀ g∈gs,g.length<=1000) :
 Calls prog 24 #[v,u,.int .i64 (n:Nat)] W fun x w'=>∃ b,x=.returned (.bool b)/\(b=true↔Zfh gs zs n)/\Below W.heap.size W w':=by
 have HL:=Hd hl;obtain⟨al,cl,rfl,_⟩:=hl.slice;obtain⟨az,cz,rfl,g0,_⟩:=hz;have HZ:=Hd g0;have gJ:=Hd hgs;have gy:=Hd (Zqa az cz zs (n:Int) W g0 (by omega));obtain⟨QQ,go⟩:∃ QQ:Ending->World->Prop,QQ=fun x w'=>∃ b,x=.returned (.bool b)/\(b=true↔Zfh gs zs n)/\Below W.heap.size W w':=⟨_,rfl⟩
 have HQ:Hid (∀ (b:Bool) w',(b=true↔Zfh gs zs n)->Below W.heap.size W w'->QQ (.returned (.bool b)) w'):=Hd (by rw[go];exact fun b w' h1 h2=>⟨b,rfl,h1,h2⟩);have gp:Hid (Zfm zs (n:Int)=decide (zs.length=n/\Za1 zs=true)):=Hd Zpx;rw[<- go];clear hl g0 hgs go
 go_enter func24,ntmps24
 go_wp2_with fail;refine gy.out.mono ?_;rintro x w' ⟨rfl,rfl⟩;rw[gp.out];clear gy
 by_cases hk:zs.length=n/\Za1 zs=true
 .
  rw[decide_eq_true hk];have HK:=Hd hk;clear hk gp;go_wp2_with fail
  go_loopw [6,7,8] (fun _ s7 _ wx=>∃ i:Nat,i<=gs.length/\s7=.int .i64 i/\Hid (Below W.heap.size W wx)/\Hid (∀ g∈gs.take i,∀ t,t+1<g.length->Zau zs (at0 g (t+1))=Zau zs (at0 g t)+1)) (fun _ s7 _ _=>gs.length-(intOf s7).toNat)
  case atStart=>exact⟨0,Nat.zero_le _,rfl,Hd (Below.refl _ _),Hd fun g hg=>by simp at hg⟩
  case round =>
   obtain⟨i,hi,rfl,g2,gq⟩:=hrel
   by_cases gj:i<gs.length
   .
    have gS:(i:Int)<gs.length:=by omega
    obtain⟨b,off,c',a2,c2,e1,gm,gf,gR⟩:=HL.out.elem gj;injection e1 with e1 _ e3
    subst e1 e3;have g9:=Znf gj;have g6:(∀ t,t+1<(gs.getD i []).length->Zau zs (at0 (gs.getD i []) (t+1))=Zau zs (at0 (gs.getD i []) t)+1)->∀ g∈gs.take (i+1),∀ t,t+1<g.length->Zau zs (at0 g (t+1))=Zau zs (at0 g t)+1:=Zuw gj gq.out;obtain⟨gi,gu⟩:∃ x,x=gs.getD i []:=⟨_,rfl⟩;rw[<- gu] at gm gf g9 g6;have gM:=gJ.out gi g9;have gK:=Hd g9;have g7:=Hd g6;have gv:=Hd gf;have gd:=Hd gm;clear gu g9 g6 gf gm;obtain⟨wo,gB⟩:∃ w,w=wr:=⟨_,rfl⟩;subst gB;go_wp2_with fail
    go_loopw [6,8] (fun _ s8 wx=>∃ t:Nat,(t=0\/t<gi.length)/\s8=.int .i64 ((t:Nat)+1)/\Hid (Below wo.heap.size wo wx)/\Hid (∀ u,u<t->u+1<gi.length->Zau zs (at0 gi (u+1))=Zau zs (at0 gi u)+1)) (fun _ s8 _=>gi.length+1-(intOf s8).toNat)
    case atStart=>exact⟨0,.inl rfl,rfl,Hd (Below.refl _ _),Hd fun u hu=>by omega⟩
    case round =>
     obtain⟨t,ht,rfl,g4,g5⟩:=hrel;have g3:=Hd (g2.out.trans (g4.out.mono g2.out.size));have gG:=(g3.out.cell (p:=⟨b,off+i,none⟩) (Zaa gd.out)).trans gd.out
     by_cases gh:t+1<gi.length
     .
      have gF:(t:Int)+1<gi.length:=by omega
      have gQ:(t:Int)<3000:=by omega
      have gO:t<gi.length:=by omega
      have gP:IntKind.i64.wrap (t:Int)=(t:Int):=IntWalk.i64_in _ (by omega);have gN:IntKind.i64.wrap ((t:Int)+1)=(t:Int)+1:=IntWalk.i64_in _ (by omega);obtain⟨wz,g8⟩:∃ w,w=wr.drew:=⟨_,rfl⟩;have gc:=Hd g8;have g1:Hid (Below W.heap.size W wz):=Hd (by rw[g8];exact g3.out.trans ((Zaf wr 1).mono g3.out.size));have gL:Hid (Below wo.heap.size wo wz):=Hd (by rw[g8];exact g4.out.trans ((Zaf wr 1).mono g4.out.size));have ga:=(g1.out.cell (p:=⟨b,off+i,none⟩) (Zaa gd.out)).trans gd.out;obtain⟨bx,ox,ex,x1⟩:=(gv.out.below g1.out).cells (t+1) gh;subst ex;obtain⟨bx',ox',ex,x0⟩:=(gv.out.below g1.out).cells t (by omega);injection ex with ex
      injection ex with ex1 ex2 _
      subst ex1 ex2;obtain⟨k1,gk⟩:∃ k,k=at0 gi (t+1):=⟨_,rfl⟩;obtain⟨k0,gl⟩:∃ k,k=at0 gi t:=⟨_,rfl⟩;rw[<- gk] at x1;rw[<- gl] at x0;have gr:=Hd (Zrt (c:=cz) (x:=k1) (HZ.out.below g1.out) (by omega));have gt:=Hd (Zrt (c:=cz) (x:=k0) (HZ.out.below g1.out) (by omega));have gI:=Zpy zs k0;have gH:=Zpz zs k0;obtain⟨z1,gg⟩:∃ z,z=Zau zs k1:=⟨_,rfl⟩;obtain⟨z0,g0⟩:∃ z,z=Zau zs k0:=⟨_,rfl⟩;rw[<- gg] at gr;rw[<- g0] at gt gI gH;have zw:IntKind.i64.wrap (z0+1)=z0+1:=IntWalk.i64_in _ (by omega);obtain⟨bb,gn⟩:∃ b:Bool,b=(z1 != z0+1):=⟨_,rfl⟩;have ge:Hid (bb=false↔Zau zs (at0 gi (t+1))=Zau zs (at0 gi t)+1):=Hd (by rw[<- gk,<- gl,<- gg,<- g0,gn];simp);clear gk gl gg g0 g3 g4 g8;go_upto_region 9 with fail;refine Zam (fun w':World=>(w'.cell? ⟨b,off+i,none⟩=some (.slice (some ⟨bx,ox,none⟩) gi.length c2)/\w'.cell? ⟨bx,ox+(t+1),none⟩=some (.int .i64 k1)/\w'.cell? ⟨bx,ox+t,none⟩=some (.int .i64 k0))/\Hid (wz=w')) false 21 [(0,false),(1,false),(2,false),(3,false),(4,false),(5,false),(6,false),(7,false),(9,false),(10,false),(11,false),(12,false),(13,false),(14,false),(15,false),(16,false),(17,false),(8,true),(18,true),(19,false),(20,false)] (by kernel_rfl) (by kernel_rfl) (by rw[<- gc.out];exact⟨⟨ga,x1,x0⟩,Hd rfl⟩) ?_;simp only[planned,Zcc]
      iterate 17
       refine Zaj rfl ?_;apply Exists.intro;refine⟨fun w' hw=>?_,?_⟩
       . obtain⟨⟨h1,h2,h3⟩,_⟩:=hw;go_simp;rfl
       simp only[Zae]
      refine Zkb (v:=.int .i64 z1) rfl (by first|(go_simp;exact⟨rfl,rfl⟩)|go_simp) (by rw[<- gc.out];exact gr.out.mono fun x w' ⟨q1,q2⟩=>⟨q1,by rw[<- q2];exact⟨⟨ga,x1,x0⟩,Hd rfl⟩⟩) ?_;rintro w3 ⟨-,gx⟩;have gD:=gx.out;subst gD;simp only[Zae];refine Zkb (v:=.int .i64 z0) rfl (by first|(go_simp;exact⟨rfl,rfl⟩)|go_simp) (gt.out.mono fun x w' ⟨q1,q2⟩=>⟨q1,by rw[<- q2];exact⟨⟨ga,x1,x0⟩,Hd rfl⟩⟩) ?_;rintro w3 ⟨-,gw⟩;have gC:=gw.out;subst gC;simp only[Zae]
      iterate 2
       refine Zaj rfl ?_;apply Exists.intro;refine⟨fun w' hw=>?_,?_⟩
       . obtain⟨⟨h1,h2,h3⟩,_⟩:=hw;go_simp;rfl
       simp only[Zae]
      refine Zb8 ?_
      try rw[<- gc.out]
      rw[<- gn];clear x1 x0 gn gx gw gc ga gr gt gG;cases bb with
      | true =>
        have HF:=Hd (HQ.out false wz ⟨(fun e=>by cases e),fun hk=>by
         have:=ge.out.2 (hk.2.2 gi gK.out t gh);cases this⟩ g1.out)
        clear ge g5 g7;go_wp2_with fail;exact HF.out
      | false =>
        have gz:Hid (∀ u,u<t+1->u+1<gi.length->Zau zs (at0 gi (u+1))=Zau zs (at0 gi u)+1):=Hd fun u hu gE=>by
         rcases Nat.lt_or_ge u t with c|c
         . exact g5.out u c gE
         .
          obtain rfl:u=t:=by omega
          exact ge.out.1 rfl
        clear ge g5;go_wp2_with fail;go_roundw
        case rel=>exact⟨t+1,.inr (by omega),by go_num,gL,gz⟩
        case measure=>simp[intOf];omega
     .
      have gF:¬ (t:Int)+1<gi.length:=by omega
      have gA:=Hd (g7.out fun u hu=>g5.out u (by omega) hu);clear g7 g5 g4 g2;go_wp2_with fail;go_roundw
      case rel=>exact⟨i+1,by omega,by go_num,g3,gA⟩
      case measure=>simp[intOf];omega
   .
    obtain rfl:i=gs.length:=by omega
    have HF:=Hd (HQ.out true wr ⟨fun _=>⟨HK.out.1,HK.out.2,fun g hg=>gq.out g (by rw[List.take_length];exact hg)⟩,fun _=>rfl⟩ g2.out);clear gq g2;go_wp2_with fail;exact HF.out
 . rw[decide_eq_false hk];have HF:=Hd (HQ.out false W ⟨(fun e=>by cases e),fun h=>(hk ⟨h.1,h.2.1⟩).elim⟩ (Below.refl _ _));clear hk gp;go_wp2_with fail;exact HF.out
theorem Zf7 {gs:List (List Int)}{M:Nat}(h:∀ g∈gs,g.length<=M):∀ pl:List Nat,(gather gs pl).length<=pl.length*M
 | []=>by simp[gather]
 | p::pl=>by
   have h1:=Zf7 h pl;have h2:(grp gs p).length<=M:=by
    rcases Nat.lt_or_ge p gs.length with c|c
    . rw[Ze1 c];exact h _ (List.getElem_mem _)
    . unfold grp;simp[List.getD,List.getElem?_eq_none c]
   unfold gather at h1 ⊢;rw[List.flatMap_cons,List.length_append,List.length_cons,Nat.add_mul];omega
theorem Zta (gs:List (List Int))(v:Int):(headed gs v).length<=gs.length:=by
 unfold headed;refine Nat.le_trans (List.length_filter_le _ _) (by simp)
theorem Ziv (gs:List (List Int)):∀ zs:List Int,(Za3 gs zs).length<=zs.length*gs.length
 | []=>by simp[Za3]
 | z::zs=>by
   have h1:=Ziv gs zs;have h2:=Zta gs z;unfold Za3 at h1 ⊢;rw[List.flatMap_cons,List.length_append,List.length_cons,Nat.add_mul];omega
def Zcu (gs:List (List Int))(v:Int)(k:Nat):List Nat:=(List.range k).filter fun k=>decide ((grp gs k).head?=some v)
theorem Zs9 {gs:List (List Int)}{v:Int}{k:Nat}(h:(grp gs k).head?=some v):Zcu gs v (k+1)=Zcu gs v k++[k]:=by
 unfold Zcu;rw[List.range_succ,List.filter_append];simp[h]
theorem Zvo {gs:List (List Int)}{v:Int}{k:Nat}(h:(grp gs k).head?≠some v):Zcu gs v (k+1)=Zcu gs v k:=by
 unfold Zcu;rw[List.range_succ,List.filter_append];simp[h]
theorem Zs8 (gs:List (List Int))(v:Int)(k:Nat):(Zcu gs v k).length<=k:=by
 unfold Zcu;refine Nat.le_trans (List.length_filter_le _ _) (by simp)
theorem Zml (gs:List (List Int))(a b:List Nat):gather gs (a++b)=gather gs a++gather gs b:=by
 unfold gather;rw[List.flatMap_append]
theorem Zs7 (gs:List (List Int))(k:Nat):gather gs [k]=grp gs k:=by simp[gather]
theorem Zl0 {gs:List (List Int)}{zs:List Int}{i:Nat}(hi:i<zs.length):Za3 gs (zs.take (i+1))=Za3 gs (zs.take i)++Zcu gs (at0 zs i) gs.length:=by
 unfold Za3;rw[List.take_succ_eq_append_getElem hi,List.flatMap_append,Za8 hi];simp[headed,Zcu]
theorem Yam {g:List Int}(h:0<g.length):g.head?=some (at0 g 0):=by
 cases g with
 | nil=>simp at h
 | cons a r=>rfl
theorem Zjm {v u:Value}{gs:List (List Int)}{zs:List Int}{n:Nat}{W:World}(hl:Zco W v gs)(hz:SliceIs W u zs)(hzl:zs.length<=64)(hgl:gs.length<=1000)(hgs:∀ g∈gs,g.length<=1000)(hn:n<=64) :
 Calls prog 26 #[v,u,.int .i64 (n:Nat)] W fun x w'=>∃ u,x=.returned u/\OwnI w' W.heap.size u (gather (Zd1 gs n) (Za3 (Zd1 gs n) zs))/\Below W.heap.size W w':=by
 have gq:=Hd (Zmn hl hgl hgs hn);have gK:=Zd2 gs.flatten n;have gz:(Zd1 gs n).length<=1064:=by rw[Zem,List.length_append,List.length_map];omega
 have HM:Hid (∀ g∈Zd1 gs n,g.length<=1000):=Hd fun g hg=>by
  rw[Zem] at hg;rcases List.mem_append.1 hg with hg|hg
  . exact hgs g hg
  . obtain⟨v,_,rfl⟩:=List.mem_map.1 hg;simp
 obtain⟨al,gB⟩:∃ al,al=Zd1 gs n:=⟨_,rfl⟩;rw[<- gB] at gq gz HM ⊢;obtain⟨a,c,rfl,_⟩:=hl.slice;obtain⟨az,cz,rfl,gx,_⟩:=hz;have HZ:=Hd gx;have gt:Hid (∀ i k y,i<=zs.length->k<=al.length->(gather al (Za3 al (zs.take i))++gather al (Zcu al y k)).length<=100000000):=Hd fun i k y hi hk=>by
  have h1:=Zf7 HM.out (Za3 al (zs.take i));have h2:=Ziv al (zs.take i);have h3:(zs.take i).length<=64:=by rw[List.length_take];omega
  have h4:(zs.take i).length*al.length<=64*1064:=Nat.mul_le_mul h3 gz;have h5:=Zf7 HM.out (Zcu al y k);have h6:=Zs8 al y k;rw[List.length_append];omega
 clear hl gx hgs gB gK
 go_enter func26,ntmps26
 go_wp2_with fail;refine gq.out.mono ?_;rintro x wA ⟨v7,rfl,gh,gm⟩;have HS:=Hd (gh.is (by omega));obtain⟨a7,c7,rfl,_⟩:=HS.out.slice;have gv:=Hd gm;have gM:=Hd (HZ.out.below gm);clear gh gm gq;go_upto_region 3 with fail;obtain⟨wB,gd⟩:∃ w,w=wA.alloc (.cells #[] 3):=⟨_,rfl⟩;have gF:Hid (OwnI wB wA.heap.size (.slice (some ⟨wA.heap.size,0,none⟩) 0 0) (gather al (Za3 al (zs.take 0)))):=Hd (by rw[gd];exact Zhk wA wA.heap.size (Nat.le_refl _));have gG:Hid (Below wA.heap.size wA wB):=Hd (by rw[gd];exact Zad _ _);rw[<- gd];clear gd;go_wp2_with fail
 go_loopw [8,9,10] (fun s8 s9 _ wx=>∃ i:Nat,i<=zs.length/\s9=.int .i64 i/\Hid (OwnI wx wA.heap.size s8 (gather al (Za3 al (zs.take i))))/\Hid (Below wA.heap.size wA wx)) (fun _ s9 _ _=>zs.length-(intOf s9).toNat)
 case atStart=>exact⟨0,Nat.zero_le _,rfl,gF,gG⟩
 case round =>
  clear gF gG;obtain⟨i,hi,rfl,HO,HB⟩:=hrel
  by_cases gy:i<zs.length
  .
   have gU:(i:Int)<zs.length:=by omega
   obtain⟨bz,oz,ez,y0⟩:=gM.out.cells i gy;subst ez;obtain⟨y,hy⟩:∃ y,y=at0 zs i:=⟨_,rfl⟩;rw[<- hy] at y0;have gD:=Hd y0;have gn:=Hd (Zl0 (gs:=al) gy);rw[<- hy] at gn;have gE:Hid (OwnI wr wA.heap.size u8 (gather al (Za3 al (zs.take i))++gather al (Zcu al y 0))):=Hd (by rw[show Zcu al y 0=[] from rfl,show gather al []=[] from rfl,List.append_nil];exact HO.out);obtain⟨wo,gJ⟩:∃ w,w=wr:=⟨_,rfl⟩;subst gJ;clear hy y0 HO;go_wp2_with fail
   go_loopw [8,10] (fun s8 s10 wx=>∃ k:Nat,k<=al.length/\s10=.int .i64 k/\Hid (OwnI wx wA.heap.size s8 (gather al (Za3 al (zs.take i))++gather al (Zcu al y k)))/\Hid (Below wA.heap.size wA wx)) (fun _ s10 _=>al.length-(intOf s10).toNat)
   case atStart=>exact⟨0,Nat.zero_le _,rfl,gE,HB⟩
   case round =>
    clear gE HB;obtain⟨k,hk,rfl,HO,HB⟩:=hrel
    by_cases gH:k<al.length
    .
     have gS:(k:Int)<al.length:=by omega
     obtain⟨wz,g5⟩:∃ w,w=wr.drew:=⟨_,rfl⟩;have g1:=Hd g5;have g0:Hid (Below wA.heap.size wA wz):=Hd (by rw[g5];exact HB.out.trans ((Zaf wr 1).mono HB.out.size));have g8:Hid (OwnI wz wA.heap.size u8 (gather al (Za3 al (zs.take i))++gather al (Zcu al y k))):=Hd (by rw[g5];exact HO.out.below (Zaf wr 1));obtain⟨bl,ol,c',ak,ck,e1,g7,g4,gR⟩:=HS.out.elem gH;injection e1 with e1 _ e3
     subst e1 e3;rw[show al.getD k []=grp al k from rfl] at g7 g4;have g6:=(g0.out.cell (p:=⟨bl,ol+k,none⟩) (Zaa g7)).trans g7;have gg:=(g0.out.cell (p:=⟨bz,oz+i,none⟩) (Zaa gD.out)).trans gD.out;have gr:=Hd (fun h=>Zs9 (gs:=al) (v:=y) (k:=k) h);have gf:=Hd (fun h=>Zvo (gs:=al) (v:=y) (k:=k) h);have ga:=gt.out i (k+1) y (by omega) (by omega)
     by_cases gc:(grp al k).length=0
     .
      have gi:grp al k=[]:=List.eq_nil_of_length_eq_zero gc;have go:Hid (OwnI wz wA.heap.size u8 (gather al (Za3 al (zs.take i))++gather al (Zcu al y (k+1)))):=Hd (by rw[gf.out (by rw[gi];simp)];exact g8.out);rw[gc] at g6;clear gc gi g8 HO HB g5 g7 g4 gr gf ga;go_upto_region 9 with fail;refine Zam (fun w':World=>w'.cell? ⟨bl,ol+k,none⟩=some (.slice ak 0 ck)/\True) false 19 [(0,false),(1,false),(2,false),(3,false),(4,false),(5,false),(6,false),(7,false),(8,false),(9,false),(10,false),(11,false),(12,false),(13,false),(14,false),(15,false),(16,false),(17,false),(18,false)] (by kernel_rfl) (by kernel_rfl) (by rw[<- g1.out];exact⟨g6,trivial⟩) ?_;simp only[planned,Zcc]
      iterate 7
       refine Zaj rfl ?_;apply Exists.intro;refine⟨fun w' hw=>?_,?_⟩
       . obtain⟨h1,_⟩:=hw;go_simp;rfl
       simp only[Zae]
      iterate 11
       refine Zb2 false (by go_simp) ?_;refine Exists.intro undef (And.intro (fun gA=>absurd gA (by simp)) ?_);simp only[Zae]
      iterate 1
       refine Zaj rfl ?_;apply Exists.intro;refine⟨fun w' hw=>?_,?_⟩
       . obtain⟨h1,_⟩:=hw;go_simp;rfl
       simp only[Zae]
      refine Zb8 ?_;rw[<- g1.out];clear g1 g6 gg;go_wp2_with fail;go_roundw
      case rel=>exact⟨k+1,by omega,by go_num,go,g0⟩
      case measure=>simp[intOf];omega
     .
      have g9:0<(grp al k).length:=by omega
      obtain⟨bx,ox,ex,x0⟩:=(g4.below g0.out).cells 0 g9;subst ex;rw[Nat.add_zero] at x0;obtain⟨h0,gj⟩:∃ x,x=at0 (grp al k) 0:=⟨_,rfl⟩;rw[<- gj] at x0;have ge:=Yam g9;rw[<- gj] at ge;have gC:=Hd g4;obtain⟨gk,gl⟩:∃ x,x=grp al k:=⟨_,rfl⟩;have g3:Hid (h0=y->gather al (Zcu al y (k+1))=gather al (Zcu al y k)++gk):=Hd fun e=>by rw[gr.out (by rw[ge,e]),Zml,Zs7,gl]
      have gp:Hid (h0≠y->Zcu al y (k+1)=Zcu al y k):=Hd fun e=>gf.out (by rw[ge];exact fun e2=>e (Option.some.inj e2))
      rw[<- gl] at g6 g9 gC;have gQ:(0:Int)<(gk.length:Int):=by omega
      have gu:Hid (h0=y->(gather al (Za3 al (zs.take i))++gather al (Zcu al y k)).length+gk.length<=100000000):=Hd fun e=>by
       have h1:=ga;rw[g3.out e,<- List.append_assoc,List.length_append] at h1;exact h1
      clear gc gl ge gj HO HB g5 g7 g4 gr gf ga;go_upto_region 9 with fail;refine Zam (fun w':World=>w'.cell? ⟨bl,ol+k,none⟩=some (.slice (some ⟨bx,ox,none⟩) gk.length ck)/\w'.cell? ⟨bx,ox,none⟩=some (.int .i64 h0)/\w'.cell? ⟨bz,oz+i,none⟩=some (.int .i64 y)) false 19 [(0,false),(1,false),(2,false),(3,false),(4,false),(5,false),(6,false),(7,false),(8,false),(9,false),(10,false),(11,false),(12,false),(13,false),(14,false),(15,false),(16,false),(17,false),(18,false)] (by kernel_rfl) (by kernel_rfl) (by rw[<- g1.out];exact⟨g6,x0,gg⟩) ?_;simp only[planned,Zcc]
      iterate 7
       refine Zaj rfl ?_;apply Exists.intro;refine⟨fun w' hw=>?_,?_⟩
       . obtain⟨h1,h2,h3⟩:=hw;go_simp;rfl
       simp only[Zae]
      iterate 11
       refine Zb2 true (by go_simp) ?_;apply Exists.intro;refine⟨fun gA w' hw=>?_,?_⟩
       . obtain⟨h1,h2,h3⟩:=hw;go_simp;rfl
       simp only[Zae]
      iterate 1
       refine Zaj rfl ?_;apply Exists.intro;refine⟨fun w' hw=>?_,?_⟩
       . obtain⟨h1,h2,h3⟩:=hw;go_simp;rfl
       simp only[Zae]
      refine Zb8 ?_;rw[<- g1.out];clear g1 x0 gg
      by_cases he:h0=y
      .
       have hb:(h0 == y)=true:=by simpa using he
       have gN:=Hd (g3.out he);have gI:=Hd (gu.out he);clear he g3 gp gu;go_wp2_with (at_builtin;refine Zcn rfl _ _ rfl wA.heap.size wA _ (gather al (Za3 al (zs.take i))++gather al (Zcu al y k)) gk _ ck rfl rfl (by exact g8.out) (by exact gC.out.below g0.out) (by have:=gI.out;omega) g0.out.size g0.out (fun e=>by cases e) ?_;intro v5 w5 gw gL gP gT);go_roundw
       case rel=>exact⟨k+1,by omega,by go_num,Hd (by rw[gN.out,<- List.append_assoc];exact gw),Hd gL⟩
       case measure=>simp[intOf];omega
      .
       have hb:(h0 == y)=false:=by simpa using he
       have go:Hid (OwnI wz wA.heap.size u8 (gather al (Za3 al (zs.take i))++gather al (Zcu al y (k+1)))):=Hd (by rw[gp.out he];exact g8.out);clear he g3 gp gu g8;go_wp2_with fail;go_roundw
       case rel=>exact⟨k+1,by omega,by go_num,go,g0⟩
       case measure=>simp[intOf];omega
    .
     obtain rfl:k=al.length:=by omega
     have gO:Hid (OwnI wr wA.heap.size u8 (gather al (Za3 al (zs.take (i+1))))):=Hd (by rw[gn.out,Zml];exact HO.out);clear HO gn;go_wp2_with fail;go_roundw
     case rel=>exact⟨i+1,by omega,by go_num,gO,HB⟩
     case measure=>simp[intOf];omega
  .
   obtain rfl:i=zs.length:=by omega
   have g2:=HO.out;rw[List.take_length] at g2;have HF:Hid (OwnI wr W.heap.size u8 (gather al (Za3 al zs))/\Below W.heap.size W wr):=Hd ⟨g2.lower gv.out.size,gv.out.trans (HB.out.mono gv.out.size)⟩
   obtain⟨a8,c8,e8,_,_⟩:=g2.sliceIs (by
    have:=gt.out zs.length 0 0 (Nat.le_refl _) (Nat.zero_le _);rw[List.take_length,List.length_append] at this;omega)
   rw[e8] at HF ⊢;clear g2 HO HB e8;go_wp2_with fail;go_ret;exact⟨_,rfl,HF.out⟩
open Go.RowKit
def Zz5:Value->Prop
 | .slice _ l c=>l<=c/\c<=maxLen
 | _=>False
def SlsC (W:World)(v:Value)(gs:List (List Int)):Prop:=∃ a c xs,v=.slice a gs.length c/\(a=none->c=0)/\gs.length<=9223372036854775807/\Zdx W xs gs/\(∀ i (_:i<xs.length),∃ b off,a=some ⟨b,off,none⟩/\W.cell? ⟨b,off+i,none⟩=some xs[i])/\∀ x∈xs,Zz5 x
theorem SlsC.below {W W':World}{v:Value}{gs:List (List Int)}(h:SlsC W v gs)(hb:Below W.heap.size W W'):SlsC W' v gs:=by
 obtain⟨a,c,xs,e,hn,hl,hs,hc,hx⟩:=h;refine⟨a,c,xs,e,hn,hl,hs.below hb,fun i hi=>?_,hx⟩;obtain⟨b,off,ea,hc⟩:=hc i hi;exact⟨b,off,ea,(hb.cell (p:=⟨b,off+i,none⟩) (Zaa hc)).trans hc⟩
def cutG (gs:List (List Int)):List (List Int):=(gs.take 8).map fun g=>g.take 8
theorem Zm7 (gs:List (List Int)):(cutG gs).length<=8:=by unfold cutG;rw[List.length_map,List.length_take];omega
theorem Zqy {gs:List (List Int)}:∀ g∈cutG gs,g.length<=8:=fun g hg=>by
 unfold cutG at hg;obtain⟨h,_,rfl⟩:=List.mem_map.1 hg;rw[List.length_take];omega
theorem Zmk {M:Nat}:∀ {gs:List (List Int)},(∀ g∈gs,g.length<=M)->gs.flatten.length<=gs.length*M
 | [],_=>by simp
 | g::gs,h=>by
   have h1:=Zmk (gs:=gs) fun x hx=>h x (List.mem_cons_of_mem _ hx)
   have h2:=h g (List.mem_cons_self ..);rw[List.flatten_cons,List.length_append,List.length_cons,Nat.add_mul];omega
theorem Zov (gs:List (List Int)):(cutG gs).flatten.length<=64:=by
 have h1:=Zmk (Zqy (gs:=gs));have h2:=Zm7 gs;omega
theorem Zri {a:Option Addr}{l c h:Nat}(hh:h<=c)(w:World):(Instr.sliceAt 23 (.slice a l c) none (some (.int .i64 (h:Nat))) none).run prog w=.ok (.slice a h c) w:=by
 have e2:(0:Int)<=h/\(h:Int)<=c:=by omega
 simp only[Instr.sliceAt,Instr.slice];go_simp
theorem Zo1 {P:Program}{o:Oper}{a:Act}{w:World}{t:TypeId}{x hi:Operand}{v:Value}(ho:o.op=.slice t x none (some hi) none)(hr:(Instr.sliceAt t (a.eval x) none (some (a.eval hi)) none).run P w=.ok v w):(execOp a.eval o).run P w=.ok (.value v) w:=by
 unfold execOp;simp[ho,hr]
theorem SliceIs.take {W:World}{a:Option Addr}{l c h:Nat}{zs:List Int}(hs:SliceIs W (.slice a l c) zs)(hh:h<=zs.length):SliceIs W (.slice a h c) (zs.take h):=by
 obtain⟨a2,c2,e,⟨h1,h2⟩,h3⟩:=hs;injection e with e1 e2 e3
 subst e1 e2 e3;have hl:(zs.take h).length=h:=by rw[List.length_take];omega
 refine⟨a,c,by rw[hl],⟨by omega,fun k hk=>?_⟩,h3⟩;obtain⟨b,off,ea,hc⟩:=h2 k (by omega);exact⟨b,off,ea,by rw[hc,Zrs (by omega)]⟩
theorem Zou {v:Value}{gs:List (List Int)}{W:World}(hl:SlsC W v gs) :
 Calls prog 13 #[v] W fun x w'=>∃ u,x=.returned u/\Zco w' u (cutG gs)/\(∀ k,u.ownBlock=some k->W.heap.size<=k)/\Below W.heap.size W w':=by
 obtain⟨a,c,xs,rfl,gO,gQ,gh,gx,gn⟩:=hl;have gK:=Hd gh;have gD:=gh.len;have gr:=Hd gx;have gC:=Hd gn;rw[<- gD];clear gh gx gn
 go_enter func13,ntmps13
 go_upto_region 2 with fail;obtain⟨w1,gc⟩:∃ w,w=W.alloc (.cells #[] 23):=⟨_,rfl⟩;have gz:Hid (RowG W.heap.size (.slice (some ⟨W.heap.size,0,none⟩) 0 0) ((gs.take 0).map fun g=>g.take 8) w1):=Hd ⟨[],by rw[gc];exact Zen 23 W W.heap.size (Nat.le_refl _),Zdx.nil _,fun i hi=>by simp at hi⟩;have gA:Hid (Below W.heap.size W w1):=Hd (by rw[gc];exact Zad _ _);rw[<- gc];clear gc;go_wp2_with fail
 go_loopw [3,4] (fun s3 s4 wx=>∃ i:Nat,i<=xs.length/\i<=8/\s4=.int .i64 i/\Hid (RowG W.heap.size s3 ((gs.take i).map fun g=>g.take 8) wx)/\Hid (Below W.heap.size W wx)) (fun _ s4 _=>8-(intOf s4).toNat)
 case atStart=>exact⟨0,Nat.zero_le _,Nat.zero_le _,rfl,gz,gA⟩
 case round =>
  clear gz gA;obtain⟨i,hi,gV,rfl,HI,HB⟩:=hrel
  by_cases gE:i<xs.length/\i<8
  .
   obtain⟨g6,gT⟩:=gE;have gU:(i:Int)<xs.length:=by omega
   have gP:(i:Int)<8:=by omega
   have gv:i<gs.length:=by omega
   obtain⟨b,off,ea,g7⟩:=gr.out i g6;subst ea;have g0:=gK.out.at_ i g6 gv;have ge:=gC.out _ (List.getElem_mem g6);obtain⟨ai,ci,ex,hz,gS⟩:=id g0;rw[ex] at g7 ge g0;obtain⟨gi,gm⟩:∃ g,g=gs[i]:=⟨_,rfl⟩;rw[<- gm] at g7 ge g0 hz;obtain⟨wz,ga⟩:∃ w,w=wr.drew:=⟨_,rfl⟩;have gp:=Hd ga;have g8:Hid (Below W.heap.size W wz):=Hd (by rw[ga];exact HB.out.trans ((Zaf wr 1).mono HB.out.size));have gL:Hid (RowG W.heap.size u3 ((gs.take i).map fun g=>g.take 8) wz):=Hd (by rw[ga];exact HI.out.below (Zaf wr 1));have g5:=(g8.out.cell (p:=⟨b,off+i,none⟩) (Zaa g7)).trans g7;obtain⟨h,hh⟩:∃ h:Nat,h=min gi.length 8:=⟨_,rfl⟩;have gw:h<=ci:=by have:=ge.1;omega
   have gk:min (gi.length:Int) 8=(h:Int):=by omega
   have gM:Hid (∀ w:World,(Instr.sliceAt 23 (.slice ai gi.length ci) none (some (.int .i64 (h:Nat))) none).run prog w=.ok (.slice ai h ci) w):=Hd fun w=>Zri gw w
   have HY:Hid (SliceIs wz (.slice ai h ci) (gi.take 8)):=Hd (by
    have h1:=(g0.below g8.out).take (h:=h) (by omega);have e:gi.take h=gi.take 8:=by
     rw[hh,List.take_eq_take_iff];omega
    rw[e] at h1;exact h1)
   have gG:Hid (gi.take 8≠[]->∀ k,(Value.slice ai h ci).ownBlock=some k->k<W.heap.size):=Hd fun gj k hk=>g0.block (fun e=>gj (by rw[e];rfl)) (by cases ai<;>exact hk)
   have gJ:Hid ((gs.take (i+1)).map (fun g=>g.take 8)=(gs.take i).map (fun g=>g.take 8)++[gi.take 8]):=Hd (by rw[List.take_succ_eq_append_getElem gv,List.map_append,gm];rfl);obtain⟨ys,g9,gg,gu⟩:=gL.out;have gR:ys.length<=8:=by have:=gg.len;rw[List.length_map,List.length_take] at this;omega
   have gf:=Hd g9;have gI:=Hd gg;have gH:=Hd gu;have gt:W.heap.size<=wz.heap.size:=g8.out.size;have gB:=Hd gk;clear ga g0 ge hz ex gm hh gw gk g9 gg gu HI HB g7;go_upto_region 5 with fail;refine Zam (fun w':World=>w'.cell? ⟨b,off+i,none⟩=some (.slice ai gi.length ci)/\True) false 15 [(0,false),(1,false),(2,false),(3,false),(4,false),(5,false),(6,false),(7,false),(8,false),(9,false),(10,true),(11,false),(12,true),(13,true),(14,false)] (by kernel_rfl) (by kernel_rfl) (by rw[<- gp.out];exact⟨g5,trivial⟩) ?_;rw[<- gp.out];simp only[planned,Zcc]
   iterate 10
    refine Zaj rfl ?_;apply Exists.intro;refine⟨fun w' hw=>?_,?_⟩
    . obtain⟨h1,_⟩:=hw;go_simp;rfl
    simp only[Zae]
   refine Zd9 rfl (w':=wz) (v:=.int .i64 (h:Nat)) (by go_simp;rw[<- gB.out];try rfl) ⟨g5,trivial⟩ ?_;simp only[Zae];refine Zaj rfl ⟨.slice ai h ci,fun w' hw=>?_,?_⟩
   . exact Zo1 rfl (gM.out w')
   simp only[Zae];refine Zd9 rfl (w':=wz.alloc (.cells #[.slice ai h ci] 23)) (v:=.slice (some ⟨wz.heap.size,0,none⟩) 1 1) (by go_simp) ⟨((Zad wz _).cell (p:=⟨b,off+i,none⟩) (Zaa g5)).trans g5,trivial⟩ ?_;simp only[Zae];refine Zno rfl ?_;refine Zby Zik wz rfl _ _ rfl W.heap.size _ ys (.slice ai h ci) rfl rfl rfl rfl rfl (by exact gf.out) (by omega) gt ?_;intro v5 w5 gd g1 g2 g3 g4 gl
   have gN:Hid (RowG W.heap.size v5 ((gs.take (i+1)).map fun g=>g.take 8) w5):=Hd (by
    rw[gJ.out]
    exact RowG.app gf.out gI.out gH.out HY.out (fun gj k hk e=>by
     have h1:=gG.out gj k hk;have h2:=(gf.out.lt k e).1;omega) gd g4 gl)
   have HB2:Hid (Below W.heap.size W w5):=Hd (Zfr g8.out gf.out g1 g2 g3 g4 gl gt)
   have gy:=(HB2.out.cell (p:=⟨b,off+i,none⟩) (by
    have:=(gr.out i g6);obtain⟨b',o',e,go⟩:=this;injection e with e
    injection e with e1 e2 _
    subst e1 e2;exact Zaa go))
   refine⟨rfl,⟨?_,trivial⟩,?_⟩
   .
    rw[gy]
    have h1:=g8.out.cell (p:=⟨b,off+i,none⟩) (by
     obtain⟨b',o',e,go⟩:=gr.out i g6;injection e with e
     injection e with e1 e2 _
     subst e1 e2;exact Zaa go)
    rw[<- h1];exact g5
   simp only[Zae]
   iterate 1
    refine Zaj rfl ?_;apply Exists.intro;refine⟨fun w' hw=>?_,?_⟩
    . obtain⟨h1,_⟩:=hw;go_simp;rfl
    simp only[Zae]
   refine Zb8 ?_;clear gd g1 g2 g3 g4 gl gp gy g5;go_wp2_with fail;go_roundw
   case rel=>exact⟨i+1,by omega,by omega,by go_num,gN,HB2⟩
   case measure=>simp[intOf];omega
  .
   have gq:Hid (∀ k,u3.ownBlock=some k->W.heap.size<=k):=Hd fun k hk=>by
    obtain⟨ys,g9,_⟩:=HI.out;exact(g9.lt k hk).1
   have HF:Hid (Zco wr u3 (cutG gs)):=Hd (by
    have h1:=HI.out;have e:gs.take i=gs.take 8:=by
     rw[List.take_eq_take_iff];omega
    rw[e] at h1;exact h1.is (by rw[List.length_map,List.length_take];omega))
   obtain⟨a3,c3,e3,_⟩:=HF.out.slice;have hd:¬ ((i:Int)<xs.length/\(i:Int)<8):=by omega
   rw[e3] at HF gq ⊢;clear HI e3
   by_cases h1:i<xs.length
   .
    have gF:(i:Int)<xs.length:=by omega
    have gX:¬ (i:Int)<8:=by omega
    go_wp2_with fail;go_ret;exact⟨_,rfl,HF.out,gq.out,HB.out⟩
   .
    have gF:¬ (i:Int)<xs.length:=by omega
    go_wp2_with fail;go_ret;exact⟨_,rfl,HF.out,gq.out,HB.out⟩
theorem Zot {v:Value}{gs:List (List Int)}{W:World}(hl:SlsC W v gs) :
 Calls prog 13 #[v] W fun x w'=>∃ u,x=.returned u/\Zco w' u (cutG gs)/\Below W.heap.size W w' :=
 (Zou hl).mono fun _ _ ⟨u,h1,h2,_,h3⟩=>⟨u,h1,h2,h3⟩
end Go.Proofs.YtkbegdkpboklpaaGreat
