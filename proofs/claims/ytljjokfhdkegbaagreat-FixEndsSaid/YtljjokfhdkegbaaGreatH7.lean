/- Several texts in one file: contracts of the program's functions and what follows from them. -/
import Derived.Test.YtljjokfhdkegbaaGreatH6
import Derived.Defers
import Derived.Deep.WholeRow
import Derived.Deep.Slices
import Derived.ChangeArms
import Derived.WideShapes
import Derived.ChangeSlices
set_option linter.unusedSimpArgs false
set_option linter.unusedVariables false
set_option linter.unusedSectionVars false
set_option linter.unnecessarySimpa false
set_option maxRecDepth 100000
set_option maxHeartbeats 8000000
namespace Go.Proofs.YtljjokfhdkegbaaGreat
open Go.Proofs.Tryz
open Go.RowKit
def Zb7 (n:Nat):Nat:=4*2^(2*n)+192*2^n
theorem Zq4 (n:Nat)(hn:n<=8)(w:World):Calls prog 182 #[.int .i64 n,.int .i64 40] w fun x w'=>x=.returned (.int .i64 (Zb7 n))/\w=w':=by
 have HB:Hid (∀ (z:Int) (k:Nat),z=k->k<=16->Calls prog 217 #[.int .i64 z] w fun x w'=>x=.returned (.int .i64 (2^k:Nat))/\w=w'):=Hd fun z k e hk=>by subst e;exact Zxs k (by omega) w
 have hA:2^(2*n)<=65536:=Nat.le_trans (Nat.pow_le_pow_right (by omega) (show 2*n<=16 by omega)) (by decide);have hB:2^n<=65536:=Nat.le_trans (Nat.pow_le_pow_right (by omega) (show n<=16 by omega)) (by decide);have g0:=Hd (fun z e=>HB.out z (2*n) e (by omega));have HB2:=Hd (fun z e=>HB.out z n e (by omega));unfold Zb7;obtain⟨a,ha⟩:∃ a,a=2^(2*n):=⟨_,rfl⟩;obtain⟨b,hb⟩:∃ b,b=2^n:=⟨_,rfl⟩;rw[<- ha] at hA g0 ⊢;rw[<- hb] at hB HB2 ⊢;clear ha hb HB
 go_enter func182,ntmps182
 go_wp2_with fail;refine(g0.out _ (by omega)).mono ?_;rintro x w' ⟨rfl,rfl⟩;go_wp2_with fail;refine(HB2.out _ (by omega)).mono ?_;rintro x w' ⟨rfl,rfl⟩;go_wp2_with fail;go_ret;exact⟨by congr 2,rfl⟩
theorem Zry (n:Nat)(hn:n<=8)(w:World):Calls prog 100 #[.int .i64 n,.int .i64 40] w fun x w'=>x=.returned (.int .i64 (Zb7 n))/\w=w':=by
 have HE:=Hd (Zq4 n hn w)
 go_enter func100,ntmps100
 go_wp2_with fail;refine HE.out.mono ?_;rintro x w' ⟨rfl,rfl⟩;go_wp2_with fail;go_ret;exact⟨rfl,rfl⟩
theorem Zuj {n:Nat}(hn:n<=6):1<=Zb7 n/\Zb7 n<=1048576:=by
 have h1:2^(2*n)<=4096:=Nat.le_trans (Nat.pow_le_pow_right (by omega) (show 2*n<=12 by omega)) (by decide);have h2:2^n<=64:=Nat.le_trans (Nat.pow_le_pow_right (by omega) hn) (by decide);have h3:0<2^n:=Nat.pow_pos (by omega);unfold Zb7;omega
theorem Zjr {n k:Nat}(hk:k<=192):k*2^n<=Zb7 n:=by
 have:=Nat.mul_le_mul_right (2^n) hk;unfold Zb7;omega
theorem Zrz {n j s:Nat}(hn:1<=n)(hs:s<=40)(hj:j<5):2*2^n+j*(39*2^n+1)+s*2^n<=Zb7 n:=by
 have h1:=Nat.mul_le_mul_right (2^n) hs;have h2:=Nat.mul_le_mul_right (39*2^n+1) (Nat.le_of_lt_succ hj);have h3:2^1<=2^n:=Nat.pow_le_pow_right (by omega) hn;have h4:2^(n+1)<=2^(2*n):=Nat.pow_le_pow_right (by omega) (by omega);rw[Nat.pow_succ] at h4;unfold Zb7;omega
theorem Zr0 {n j s k:Nat}(hs:s<=40)(h1:1<=s)(h:k<=2*2^n+j*(39*2^n+1)+Zgz n s):k<=2*2^n+(j+1)*(39*2^n+1):=by
 have h2:=Zhc n h1;have h3:=Nat.mul_le_mul_right (2^n) hs;rw[Nat.add_mul];have h4:0<2^n:=Nat.pow_pos (by omega);omega
theorem Zwg {n j k:Nat}(hj:j<=5)(h:k<=2*2^n+j*(39*2^n+1))(hn:2<=n):k+7<=Zb7 n:=by
 have h2:=Nat.mul_le_mul_right (39*2^n+1) hj;have h3:2^2<=2^n:=Nat.pow_le_pow_right (by omega) hn;have h4:2^(n+2)<=2^(2*n):=Nat.pow_le_pow_right (by omega) (by omega);rw[Nat.pow_add] at h4;unfold Zb7;omega
def two:List (Int×BF):=[(0,fun _=>false),(1,fun _=>true)]
theorem Zqn:B2 two:=⟨by simp[two],by simp[two]⟩
theorem Zp5 {K:Law}(n room:Nat)(w:World)(hn:n<=64)(h1:1<=room)(h2:room<=1048576) :
 Calls prog 65 #[.int .i64 n,.int .i64 room] w fun x w'=>∃ mb,x=.returned (.tuple #[.pointer (some ⟨mb,0,none⟩),.int .i64 0])/\∃ o m V,SatE K n (fun _=>True) room w mb two 2 w' o m V/\m.waits=[]/\m.calls=0/\m.d.pool.many=0:=by
 refine(Zyo (F:=K (man0 n room).d (fun _ _=>true)) (fun _=>none) n room w (fun k r h=>by cases h) hn h1 h2).mono ?_;rintro x w1 ⟨mb,o1,rfl,g0,g2,g1,_⟩;exact⟨mb,rfl,o1,man0 n room,fun _ _=>true,⟨g0,g1,Zym n room hn,by simp[man0,store0],trivial,by simp[man0,store0,pool0],rfl,by simp[man0,two,ef];constructor<;>rfl,ChgX.of_chg g2 NoB⟩,rfl,rfl,rfl⟩
def OrdP (zs:List Int)(l:List Nat):Prop:=∀ j,j<zs.length->((l.getD j 0:Nat):Int)=at0 zs j
def SetP (K:Law)(q:AskD)(n:Nat)(w:World)(y:Ending)(w':World):Prop :=
 ∃ mb vl vx wb hs nx,y=.returned (.tuple #[.pointer (some ⟨mb,0,none⟩),vl,vx,.bool true])/\Below w.heap.size w wb/\hs.map Prod.snd=q.es.map fnT/\nx<=1000/\∃ o m V,LawT K n (OrdP q.order) (Zb7 n) wb mb (two++hs) nx (fun ws c=>ws=q.plan/\c=0) hs hs w' o m V vl vx/\(2<=n->m.d.pool.many+7<=Zb7 n)
def SetI (K:Law)(q:AskD)(n:Nat)(wb:World)(mb:Nat)(j:Nat)(s8 s9:Value)(W:World):Prop :=
 ∃ hs nx,hs.map Prod.snd=(q.es.take j).map fnT/\nx<=2+120*(j:Int)/\∃ o m V,LawT K n (OrdP q.order) (Zb7 n) wb mb (two++hs) nx (fun ws c=>ws=[]/\True) hs hs W o m V s8 s9/\m.d.pool.many<=2*2^n+j*(39*2^n+1)
theorem Zun {K:Law}(hK:Zbu K)(q:AskD)(ao ae ap:Option Addr)(co ce cp:Nat)(w:World)(h:AskAt w q ao ae ap)(hsm:Zkn q)(n:Nat)(hqn:q.vars=n) :
 Calls prog 27 #[askV q ao ae ap co ce cp] w (SetP K q n w):=by
 have hJ:=hsm.lo;have hM:=hsm.hi;have hN:=hsm.es;have hI:=hsm.plan;have gJ:=Hd hsm;have hp:=Hd h;have hr:n<=6:=by omega
 have ht:1<=n:=by omega
 have gB:=Zuj hr;obtain⟨Q,hQ⟩:∃ Q:Ending->World->Prop,Q=SetP K q n w:=⟨_,rfl⟩;rw[<- hQ];have HQ:=Hd hQ;obtain⟨w1,gf⟩:∃ w1,w1=w.alloc (.cells #[.int .i64 q.vars,.slice ao q.order.length co,.slice ae q.es.length ce,.slice ap q.plan.length cp] 39):=⟨_,rfl⟩;have HW1:Hid (_=w1):=Hd gf.symm;have ha:Hid (Below w.heap.size w w1):=by rw[gf];exact Hd (Zaf _ _)
 have g0:w1.heap[w.heap.size]?=some (.cells #[.int .i64 q.vars,.slice ao q.order.length co,.slice ae q.es.length ce,.slice ap q.plan.length cp] 39 (0,0)):=by rw[gf];exact heap_alloc_new _ _
 have hs1:w1.heap.size=w.heap.size+1:=by rw[gf];simp
 have gN:=Hd hqn;rw[hqn] at g0 HW1;have d0:w1.cell? ⟨w.heap.size,0,none⟩=some (.int .i64 (n:Nat)):=by rw[cell_of_row _ _ 0 _ _ _ g0];rfl
 have d1:w1.cell? ⟨w.heap.size,1,none⟩=some (.slice ao q.order.length co):=by rw[cell_of_row _ _ 1 _ _ _ g0];rfl
 have d2:w1.cell? ⟨w.heap.size,2,none⟩=some (.slice ae q.es.length ce):=by rw[cell_of_row _ _ 2 _ _ _ g0];rfl
 have d3:w1.cell? ⟨w.heap.size,3,none⟩=some (.slice ap q.plan.length cp):=by rw[cell_of_row _ _ 3 _ _ _ g0];rfl
 have gX:=hqn;unfold askV;rw[gX];obtain⟨rm,gk⟩:∃ rm,rm=Zb7 n:=⟨_,rfl⟩;have gK:=Hd gk;have gL:=Hd (fun W=>Zry n (by omega) W);rw[<- gk] at gL gB;clear h hsm hQ gf g0 gk hqn gX;have gP:=Hd (Zp5 (K:=K) n rm w1.drew (by omega) gB.1 gB.2)
 go_enter func27,ntmps27
 go_upto_region 1 with fail;rw[HW1.out];refine Zap (fun W:World=>W.cell? ⟨w.heap.size,0,none⟩=some (.int .i64 (n:Nat))/\True) false 11 [(0,false),(1,false),(2,false),(3,false),(4,true),(5,true),(6,false),(7,false),(8,false),(9,false),(10,false)] (by kernel_rfl) (by kernel_rfl) ⟨d0,trivial⟩ ?_;simp only[planned,Zc7]
 iterate 4
  refine Zaq rfl ?_;apply Exists.intro;refine⟨fun w' hw=>?_,?_⟩
  . obtain⟨h1,_⟩:=hw;go_simp;rfl
  simp only[Zai]
 refine Zb0 (R:=fun v w'=>v=.int .i64 (rm:Nat)/\w'=w1.drew) rfl (by go_simp) ((gL.out _).mono (fun e w' he=>?_)) ?_
 . obtain⟨rfl,rfl⟩:=he;exact⟨_,rfl,⟨d0,trivial⟩,rfl,rfl⟩
 rintro v w'-⟨rfl,rfl⟩;simp only[Zai];refine Zb0 (R:=fun v w'=>∃ mb,v=.tuple #[.pointer (some ⟨mb,0,none⟩),.int .i64 0]/\∃ o m V,SatE K n (fun _=>True) rm w1.drew mb two 2 w' o m V/\m.waits=[]/\m.calls=0/\m.d.pool.many=0) rfl (by go_simp) (gP.out.mono (fun e w' he=>?_)) ?_
 . obtain⟨mb,rfl,o,m,V,g5,gS⟩:=he;exact⟨_,rfl,⟨(g5.chg.below0.cell (p:=⟨w.heap.size,0,none⟩) (Zab (w:=w1.drew) d0)).trans d0,trivial⟩,mb,rfl,o,m,V,g5,gS⟩
 rintro v w2-⟨mb,rfl,o,m,V,g5,gT,hB,gY⟩;simp only[Zai]
 iterate 5
  refine Zaq rfl ?_;apply Exists.intro;refine⟨fun w' hw=>?_,?_⟩
  . obtain⟨h1,_⟩:=hw;go_simp;rfl
  simp only[Zai]
 refine Zeu ?_;obtain⟨wb,g7⟩:∃ wb,wb=w1.drew:=⟨_,rfl⟩;rw[<- g7] at g5;have h9:Hid (Below w.heap.size w wb):=Hd (by rw[g7];exact ha.out.trans ((Zah w1 1).mono ha.out.size));have c0:wb.cell? ⟨w.heap.size,0,none⟩=some (.int .i64 (n:Nat)):=by rw[g7];exact d0
 have c1:wb.cell? ⟨w.heap.size,1,none⟩=some (.slice ao q.order.length co):=by rw[g7];exact d1
 have c2:wb.cell? ⟨w.heap.size,2,none⟩=some (.slice ae q.es.length ce):=by rw[g7];exact d2
 have c3:wb.cell? ⟨w.heap.size,3,none⟩=some (.slice ap q.plan.length cp):=by rw[g7];exact d3
 have hO:w.heap.size<wb.heap.size:=Zab c0;have gi:=Hd (hp.out.below h9.out);clear g7 gP gL d0 d1 d2 d3 HW1 hs1
 have gR:=Hd (Zou (K:=K) g5 (by omega) (by rw[gK.out];have:=Zjr (n:=n) (k:=6) (by omega);simp[two];omega) (c:=co) (gi.out.order.below g5.chg.below0) (fun h0 x hx=>by
  obtain⟨b,off,e,hc⟩:=gi.out.order.cells 0 h0;rw[hx] at e;cases e;exact g5.none0 (Zab hc)) (by
  rcases Nat.eq_zero_or_pos q.order.length with h0|h0
  . exact .inl h0
  . have:=gJ.out.order h0;rw[gN.out] at this;exact .inr (Zv8 this)))
 have e0:=(g5.chg.below0.cell (p:=⟨w.heap.size,0,none⟩) (Zab c0)).trans c0;have e1:=(g5.chg.below0.cell (p:=⟨w.heap.size,1,none⟩) (Zab c1)).trans c1;have HWT:=Hd gT;have hG:=Hd gY;clear g5 gT hB gY;go_wp2_with fail;refine gR.out.mono ?_;rintro y w3 ⟨rfl,o3,m3,V3,gb,gw,hh,hC,gD⟩;have h8:Hid (SetI K q n wb mb 0 (.slice none 0 0) (.slice none 0 0) w3):=Hd ⟨[],2,rfl,by omega,o3,m3,V3,⟨by rw[gK.out] at gb;exact gb,Zqn,⟨by rw[gw,HWT.out],trivial⟩,⟨Zl1 _ _ _,fun k hk=>by cases hk⟩,⟨⟨[],rfl,Zl1 _ _ _,fun i v hv=>by simp at hv⟩,fun k hk=>by cases hk⟩⟩,by have:=hG.out;simp[two] at gD;omega⟩;have f2:=(gb.chg.below0.cell (p:=⟨w.heap.size,2,none⟩) (Zab c2)).trans c2;clear gb gw hh hC gD gR e0 e1;go_wp2_with fail
 go_loopw [8,9,40] (fun s8 s9 s40 wr=>∃ j:Nat,j<=q.es.length/\s40=.int .i64 j/\Hid (SetI K q n wb mb j s8 s9 wr)) (fun _ _ s40 _=>q.es.length-(intOf s40).toNat)
 case atStart=>exact⟨0,Nat.zero_le _,rfl,h8⟩
 case round =>
  clear h8 f2
  rename World=>wy
  obtain⟨j,hj,rfl,HI⟩:=hrel;obtain⟨hs,nx,gj,hnx,hu⟩:=HI.out;obtain⟨o0,m0,V0,gl,gE⟩:=hu;have gu:Hid (∃ o m V,LawT K n (OrdP q.order) (Zb7 n) wb mb (two++hs) nx (fun ws c=>ws=[]/\True) hs hs wy o m V u8 u9/\m.d.pool.many<=2*2^n+j*(39*2^n+1)):=Hd ⟨o0,m0,V0,gl,gE⟩;have gG:=gl.below0;have ho:=Hd gG;have gI:=Hd gj;have hA:hs.length=j:=by have:=congrArg List.length gj;simpa [Nat.min_eq_left hj] using this
  clear HI gj gl gE gG o0 m0 V0
  by_cases gF:j<q.es.length
  .
   have hy:(j:Int)<q.es.length:=by omega
   have gt:=ho.out;obtain⟨b,off,x0,x1,x2,ea,k0,k1,k2,hx⟩:=gi.out.es.cells j gF;subst ea;obtain⟨zo,zv,za,zn,zc,rfl,rfl,rfl⟩:=hx.parts;have gh:=Hd (gJ.out.expr _ (List.getElem_mem gF));have ga:=gh.out.1;have gx:=ExT.size_pos q.es[j];obtain⟨e,he⟩:∃ e,e=q.es[j]:=⟨_,rfl⟩;rw[<- he] at hx gh ga gx;have HX:=Hd hx;have q0:=(gt.cell (p:=⟨b,off+j*3,none⟩) (Zab k0)).trans k0;have q1:=(gt.cell (p:=⟨b,off+j*3+1,none⟩) (Zab k1)).trans k1;have q2:=(gt.cell (p:=⟨b,off+j*3+2,none⟩) (Zab k2)).trans k2;have hF:Hid ((q.es.take (j+1)).map fnT=(q.es.take j).map fnT++[fnT e]):=Hd (by rw[List.take_succ_eq_append_getElem gF,List.map_append,he];rfl);obtain⟨wz,gn⟩:∃ wz,wz=wy.alloc (.cells #[.int .i64 zo,.int .i64 zv,.slice za zn zc] 98):=⟨_,rfl⟩;have hD:Hid (_=wz):=Hd gn.symm;have h3:Below wy.heap.size wy wz:=by rw[gn];exact Zaf _ _
   have g0:wz.heap[wy.heap.size]?=some (.cells #[.int .i64 zo,.int .i64 zv,.slice za zn zc] 98 (0,0)):=by rw[gn];exact heap_alloc_new _ _
   have p0:wz.cell? ⟨wy.heap.size,0,none⟩=some (.int .i64 zo):=by rw[cell_of_row _ _ 0 _ _ _ g0];rfl
   have p1:wz.cell? ⟨wy.heap.size,1,none⟩=some (.int .i64 zv):=by rw[cell_of_row _ _ 1 _ _ _ g0];rfl
   have p2:wz.cell? ⟨wy.heap.size,2,none⟩=some (.slice za zn zc):=by rw[cell_of_row _ _ 2 _ _ _ g0];rfl
   obtain⟨o4,m4,V4,lt0,mn4⟩:=gu.out;have lt4:=lt0.below h3;have n4:o4 wy.heap.size=none:=lt0.sat.lt.none (Nat.le_refl _);have gZ:∀ g,u8.ownBlock=some g->g<wy.heap.size:=fun g hg=>(lt0.l.own.lt g hg).2
   have hL:(two++hs).length=2+j:=by simp[two,hA];omega
   have gv:=Hd (Zmu hK e _ (two++hs) nx wz o4 m4 V4 _ lt4.sat ⟨lt4.st.1,mn4⟩ lt4.b2 gh.out.2.1.valid (by have:=gh.out.2.2;rw[gN.out] at this;exact this) hx (by omega) (Zrz ht ga (by omega)));have g8:=Hd lt4;clear gt k0 k1 k2 hx h3 g0 gn lt4 gu he lt0;go_upto_region 9 with fail;rw[hD.out];clear q0 q1 q2;go_wp2_with fail;refine gv.out.mono ?_;rintro y w5 ⟨k,rfl,hk,o5,m5,V5,g9,⟨gV,gC⟩,gy⟩;have hm:Hid (m5.d.pool.many<=2*2^n+(j+1)*(39*2^n+1)):=Hd (Zr0 ga gx gC);have gm:Hid (LawT K n (OrdP q.order) (Zb7 n) wb mb (two++(hs++[(k,fnT e)])) (k+1) (fun ws c=>ws=[]/\True) hs hs w5 o5 m5 V5 u8 u9):=Hd (g8.out.go (by rw[<- List.append_assoc];exact gy) (Zqn.app _) ⟨gV,trivial⟩ g9);have r0:=g9.cell (p:=⟨wy.heap.size,0,none⟩) p0 n4 (fun e=>e);have r1:=g9.cell (p:=⟨wy.heap.size,1,none⟩) p1 n4 (fun e=>e);have r2:=g9.cell (p:=⟨wy.heap.size,2,none⟩) p2 n4 (fun e=>e);have n5:=g9.none' (Zab p0) n4;have hd:wb.heap.size<=w5.heap.size:=gy.chg.size;clear g9 gV gy gC gv p0 p1 p2 g8;go_upto_region 13 with (at_builtin;refine Zb1 Zg1 _ rfl _ _ rfl wb.heap.size _ (Za0 (hs.map Prod.fst)) _ rfl rfl rfl rfl rfl (by exact gm.out.l.own) (by simp[Za0];omega) hd ?_;intro v6 w6 gr g1 g2 g3 g4 gH)
   have gU:=Zlc g1 g2 g3 g4 gH;have gd:w6.heap[wy.heap.size]?=w5.heap[wy.heap.size]?:=gU.keep _ (Zab r0) (fun e=>by have:=gZ _ e;omega);have t0:=(World.cell?_of_block (w:=w5) (a:=⟨wy.heap.size,0,none⟩) gd).trans r0;have t1:=(World.cell?_of_block (w:=w5) (a:=⟨wy.heap.size,1,none⟩) gd).trans r1;have t2:=(World.cell?_of_block (w:=w5) (a:=⟨wy.heap.size,2,none⟩) gd).trans r2;have g6:=Hd (gm.out.appL gr g1 g2 g3 g4 gH (p:=(k,fnT e)));have a0:=(g6.out.below0.cell (p:=⟨w.heap.size,0,none⟩) (Zab c0)).trans c0;have h5:=Hd (Zkf e _ n (by omega) w6 (by omega) gh.out.2.1 (HX.out.below g6.out.below0));clear gU gd gr g1 g2 g3 g4 gH r0 r1 r2 gm gZ;go_wp2_with fail;refine h5.out.mono ?_;rintro y w7 ⟨v7,rfl,gc,h4⟩;obtain⟨av,cv,rfl,_⟩:=gc.slice;have h7:Hid (LawB w7 o5 wb.heap.size (.slice av (Zby (tabB n (fnT e))).length cv) (tabB n (fnT e))):=Hd (Zvt (n:=n) gc (by rw[Zg8];exact Zuv (by omega)) g6.out.sat.lt g6.out.sat.chg.size);have ge:=Hd (g6.out.below h4);obtain⟨rs,hf,gA,gz⟩:=ge.out.x.ex;have gM:=Hd gA;have h6:=Hd gz;have hq:rs.length=hs.length:=by rw[hf];simp
   have hb:wb.heap.size<=w7.heap.size:=ge.out.sat.chg.size;clear gc h4 gA gz h5 g6 t0 t1 t2 a0;go_upto_region 14 with (at_builtin;refine Zb1 Zx2 _ rfl _ _ rfl wb.heap.size _ rs _ rfl rfl rfl rfl rfl (by exact gM.out) (by omega) hb ?_;intro v8 w8 gq g1 g2 g3 g4 h2)
   have gQ:=Hd (ge.out.appX h7.out rfl hq gM.out h6.out gq g1 g2 g3 g4 h2 (p:=(k,fnT e)));have hH:Hid (SetI K q n wb mb (j+1) v6 v8 w8):=Hd ⟨hs++[(k,fnT e)],k+1,by rw[List.map_append,gI.out,hF.out];rfl,by omega,o5,m5,V5,gQ.out,hm.out⟩;clear gq g1 g2 g3 g4 h2 gM h6 ge h7 gQ;go_wp2_with fail;go_roundw
   case rel=>exact⟨j+1,by omega,by go_num,hH⟩
   case measure=>simp[intOf];omega
  .
   have hz:j=q.es.length:=by omega
   have hy:¬ (j:Int)<q.es.length:=by omega
   obtain⟨o4,m4,V4,lt4,mn4⟩:=gu.out;have hn:=Hd mn4;clear mn4;have e3:=(lt4.below0.cell (p:=⟨w.heap.size,3,none⟩) (Zab c3)).trans c3;have gp:m4.waits=[]:=lt4.st.1;have gs:Zej n m4.waits.length q.plan=0:=by
    rw[gp];have:=gJ.out.planOk;rw[gN.out] at this;exact this
   have gO:=Hd (Zo8 lt4.sat (c:=cp) (gi.out.plan.below lt4.below0) (fun h0 x hx=>by
    obtain⟨b,off,e,hc,_⟩:=gi.out.plan.cells 0 h0;rw[hx] at e;cases e;exact lt4.sat.none0 (Zab hc)) (by rw[gp];simp))
   rw[gs] at gO;have g8:=Hd lt4;have hE:=Hd gp;clear lt4 gp gs gu;go_wp2_with fail;refine gO.out.mono ?_;rintro y w5 ⟨rfl,o5,m5,gg⟩
   have HF:Hid (Q (.returned (.tuple #[.pointer (some ⟨mb,0,none⟩),u8,u9,.bool true])) w5):=Hd (by
    rw[HQ.out];refine⟨mb,u8,u9,wb,hs,nx,rfl,h9.out,by rw[gI.out,hz,List.take_length],by omega,o5,m5,V4,g8.out.go gg.sat g8.out.b2 ?_ (ChgX.of_chg gg.chg NoB),?_⟩
    rotate_left
    . rw[gg.d];exact Zwg (by omega) hn.out
    have:=gg.yes rfl;rw[hE.out] at this;exact⟨by simpa using this.1,by simpa using this.2⟩)
   clear gg gO;go_wp2_with fail;refine bodyPost_ret (Zco rfl _ _ _) rfl ?_;exact HF.out
open Go.RowKit
end Go.Proofs.YtljjokfhdkegbaaGreat

namespace Go.Proofs.YtljjokfhdkegbaaGreat
open Go.Proofs.Tryz
open Go.RowKit
open Go.RowKit
end Go.Proofs.YtljjokfhdkegbaaGreat

namespace Go.Proofs.YtljjokfhdkegbaaGreat
open Go.Proofs.Tryz
open Go.RowKit
open Go.RowKit
theorem Zu7 (p:Prop):∃ b:Bool,b=true↔p:=by
 classical
 exact⟨decide p,by simp⟩
open Go.RowKit
open Go.RowKit
structure AtC (K:Law)(k:Nat)(o:Own)(w:World)(mb:Nat)(m:ManD)(V:Nat->BF)(o':Own)(w':World)(m':ManD)(V':Nat->BF):Prop where
 st:Step K o w mb m V o' w' m' V'
 waits:m'.waits=m.waits
 many:m'.d.pool.many<=m.d.pool.many+k
def Zu3 (K:Law)(k:Nat)(o:Own)(w:World)(mb:Nat)(m:ManD)(V:Nat->BF)(er:Int)(evt:Bool)(ev:Ev)(w':World):Prop :=
 ∃ o' m' V',Step K o w mb m V o' w' m' V'/\((er=7/\evt=false/\ev=ev0/\m'.waits=m.waits/\m'.d.pool.many=m'.d.pool.room/\m'.d.pool.many+1<=m.d.pool.many+k)\/(er=0/\evt=true/\m.waits=ev::m'.waits))
def Zmm (K:Law)(k:Nat)(o:Own)(w:World)(mb:Nat)(m:ManD)(V:Nat->BF)(A:Zae->(Nat->BF)->Nat->Prop)(e:Ending)(w':World):Prop :=
 (∃ r o' m' V',e=.returned (.int .i64 (r:Nat))/\AtC K k o w mb m V o' w' m' V'/\okE (Zaa m'.d) r/\A m'.d V' r)\/(∃ er evt ev,e=Zdq er evt ev/\Zu3 K k o w mb m V er evt ev w')
section
variable {K:Law}{n k k1 k2:Nat}{Od:List Nat->Prop}{room:Nat}{w0 w w' w1 w2:World}{mb:Nat}{fs:List (Int×BF)}{nx:Int}{o o' o1 o2:Own}{m m' m1 m2:ManD}{V V' V1 V2:Nat->BF}{xb:Nat}
theorem AtC.refl (h:Zdz (K m.d V) o w mb m)(hl:Zaj o w)(hk:Zao m.d V):AtC K 0 o w mb m V o w m V:=⟨⟨h,hl,Chg.refl _ _ _,hk,Ext.refl _ _,rfl,rfl⟩,rfl,Nat.le_refl _⟩
theorem AtC.trans (h:AtC K k1 o w mb m V o1 w1 m1 V1)(h':AtC K k2 o1 w1 mb m1 V1 o2 w2 m2 V2):AtC K (k1+k2) o w mb m V o2 w2 m2 V2 :=
 ⟨h.st.trans h'.st,h'.waits.trans h.waits,by have:=h.many;have:=h'.many;omega⟩
theorem AtC.mono (h:AtC K k1 o w mb m V o1 w1 m1 V1)(hk:k1<=k2):AtC K k2 o w mb m V o1 w1 m1 V1:=⟨h.st,h.waits,Nat.le_trans h.many (by omega)⟩
theorem AtC.below (h:AtC K k o w mb m V o1 w1 m1 V1)(hb:Below w1.heap.size w1 w2):AtC K k o w mb m V o1 w2 m1 V1:=⟨h.st.below hb,h.waits,h.many⟩
theorem AtC.vars (h:AtC K k o w mb m V o1 w1 m1 V1)(hv:m.d.vars.length=n):m1.d.vars.length=n:=by rw[h.st.ext.vars];exact hv
theorem Zu3.after {er:Int}{evt:Bool}{ev:Ev}(h:AtC K k1 o w mb m V o1 w1 m1 V1)(h':Zu3 K k2 o1 w1 mb m1 V1 er evt ev w2)(hk:k1+k2<=k):Zu3 K k o w mb m V er evt ev w2:=by
 obtain⟨o2,m2,V2,st,⟨a1,a2,a3,a4,a5,a6⟩|⟨a1,a2,a3⟩⟩:=h'
 . have:=h.many;exact⟨o2,m2,V2,h.st.trans st,.inl ⟨a1,a2,a3,a4.trans h.waits,a5,by omega⟩⟩
 . exact⟨o2,m2,V2,h.st.trans st,.inr ⟨a1,a2,by rw[<- h.waits];exact a3⟩⟩
theorem Zps (hK:Zbu K)(h:Zdz (K m.d V) o w mb m)(hlt:Zaj o w)(hx:Zer o w xb mb)(hk:Zao m.d V)(hn:m.d.vars.length=n)(f g e:Nat)(hf:okE (Zaa m.d) f)(hg:okE (Zaa m.d) g)(he:okE (Zaa m.d) e) :
 Calls prog 128 #[.pointer (some ⟨xb,0,none⟩),.int .i64 f,.int .i64 g,.int .i64 e] w (Zmm K (2^n-1) o w mb m V fun _ V' r=>ef V' r=Zc6 (ef V f) (ef V g) (ef V e)):=by
 have hp2:0<2^n:=Nat.pow_pos (by omega);refine(Zkq hK n o w xb mb m V f g e h hlt hx hk hf hg he (by omega)).mono ?_;rintro x w' ⟨o',m',V',st,⟨r,rfl,h1,h2,h3⟩|⟨rfl,h2,h3,h4⟩|⟨ev,rfl,h1⟩⟩
 .
  refine .inl ⟨r,o',m',V',rfl,⟨st,h2,by omega⟩,h1.okR,?_⟩
  show ef V' r=Zc6 (ef V f) (ef V g) (ef V e)
  funext ρ;rw[h1.val ρ,st.ext.ef hf,st.ext.ef hg,st.ext.ef he];rfl
 . exact .inr ⟨7,false,ev0,rfl,o',m',V',st,.inl ⟨rfl,rfl,rfl,h2,h3,by omega⟩⟩
 . exact .inr ⟨0,true,ev,rfl,o',m',V',st,.inr ⟨rfl,rfl,h1⟩⟩
theorem Zzo {C:Nat->Prop}{B:World->Prop}{gop:Nat}{lop:Array Value}{F:BF}(ws0:List Ev)(lim:Option Nat)(hlim:Zos ws0 lim k room)(hhap:∀ ev∈ws0,HapG K n Od room w0 mb fs nx ev)
 (hB:∀ W W',B W->(∀ c,C c->W'.heap[c]?=W.heap[c]?)->B W')
 (hop:∀ (o:Own) (W:World) (m:ManD) (V:Nat->BF) (xb:Nat),SatE K n Od room w0 mb fs nx W o m V->B W->(∀ k,C k->k<W.heap.size/\o k=none)->Zer o W xb mb->¬ C xb->Calls prog gop (#[.pointer (some ⟨xb,0,none⟩)]++lop) W (Zmm K k o W mb m V fun _ V' r=>ef V' r=F)) :
 OpG K n Od room w0 mb fs nx C B (StL ws0 lim) gop lop (QF ws0 lim k F) (EL (SatX K n Od room w0 mb fs nx) k ws0 lim):=by
 intro o W m V xb g3 hb hC g0 g5 hnx;refine(hop o W m V xb g3 hb hC g5 hnx).mono ?_;have g2:∀ {o':Own} {w':World} {m':ManD} {V':Nat->BF},Step K o W mb m V o' w' m' V'->B w':=fun st=>hB _ _ hb fun c hc=>st.chg.alien (hC c hc).1 (hC c hc).2
 rintro e w' (⟨r,o',m',V',rfl,h1,h2,h3⟩|⟨er,evt,ev,rfl,o',m',V',st,⟨rfl,rfl,rfl,a4,a5,a6⟩|⟨rfl,rfl,a3⟩⟩)
 . exact⟨o',m',V',h1.st.toX _,g2 h1.st,.inl ⟨r,rfl,h2,h3,by rw[h1.waits];exact g0.1,fun M e=>by have:=g0.2 M e;have:=h1.many;omega⟩⟩
 . have g4:lim=none:=Zlt (m':=m') hlim g0.2 (by rw[<- a5];omega) (by rw[st.ext.room];exact g3.room);exact⟨o',m',V',st.toX _,g2 st,.inr (.inl ⟨7,rfl,by omega,a4,⟨by unfold Zi4;rw[a4];exact g0.1,by subst g4;exact fun M e=>by cases e⟩,g4,rfl,⟨_,_,_,g3⟩,a5,a6,by rw[a4];exact g0.1⟩)⟩
 . have g1:m.waits <:+ ws0:=g0.1;rw[a3] at g1;exact⟨o',m',V',st.toX _,g2 st,.inr (.inr ⟨ev,rfl,a3,fun _ _ _ _ _ e _ _=>⟨by unfold Zi4;rw[e];exact(List.suffix_cons ev m'.waits).trans g1,Ztu hlim g1⟩,hhap ev (g1.subset (List.mem_cons_self ..))⟩)⟩
end
open Go.RowKit
theorem Zx3 (V:Nat->BF)(e:Nat):ef V (enot e)=notF (ef V e):=funext fun ρ=>Zg0 V e ρ
def Zqx (K:Law)(n:Nat)(g:Nat)(G:BF->BF->BF):Prop:=∀ (o:Own) (w:World) (xb mb:Nat) (m:ManD) (V:Nat->BF) (a b:Nat),Zdz (K m.d V) o w mb m->Zaj o w->Zer o w xb mb->Zao m.d V->m.d.vars.length=n->okE (Zaa m.d) a->okE (Zaa m.d) b ->
 Calls prog g #[.pointer (some ⟨xb,0,none⟩),.int .i64 a,.int .i64 b] w (Zmm K (2^n-1) o w mb m V fun _ V' r=>ef V' r=G (ef V a) (ef V b))
section
variable {K:Law}{n:Nat}
theorem Zvd {o:Own}{w:World}{mb:Nat}{m:ManD}{V:Nat->BF}(h:Zdz (K m.d V) o w mb m){e:Nat}(he:okE (Zaa m.d) e):e<eMax:=by
 obtain⟨s,hs⟩:=h;obtain⟨s2,h2⟩:=hs.store;have:=h2.edge_lt he;unfold eMax;omega
theorem Zz3 (hK:Zbu K):Zqx K n 148 orF:=by
 intro o w xb mb m V a b h g0 hx hk hn ha hb;have hI:=Zps hK h g0 hx hk hn a 0 b ha (.inl rfl) hb;have e:Zc6 (ef V a) (ef V 0) (ef V b)=orF (ef V a) (ef V b):=by
  rw[hk.dag.ef0];rfl
 rw[e] at hI;have HI:=Hd hI;clear hI e h g0 hx hk hn ha hb hK
 go_enter func148,ntmps148
 go_wp2_with fail;refine HI.out.mono ?_;rintro e w' (⟨r,o',m',V',rfl,h⟩|⟨er,evt,ev,rfl,h⟩)
 . have HR:=Hd h;clear h HI;go_wp2_with fail;go_ret;exact .inl ⟨r,o',m',V',rfl,HR.out⟩
 . have HR:=Hd h;clear h HI;unfold Zdq;go_wp2_with fail;exact⟨rfl,.inr ⟨er,evt,ev,rfl,HR.out⟩⟩
theorem Zys (hK:Zbu K):Zqx K n 194 Zm4:=by
 intro o w xb mb m V a b h g0 hx hk hn ha hb;have hI:=Zps hK h g0 hx hk hn a (enot b) 1 ha (Zp7 hb) (.inl rfl);have e:Zc6 (ef V a) (ef V (enot b)) (ef V 1)=Zm4 (ef V a) (ef V b):=by
  rw[Zx3,hk.dag.ef1];rfl
 rw[e] at hI;have HI:=Hd hI;have HN:=Hd (Zly b w (Zvd h hb));clear hI e h g0 hx hk hn ha hb hK
 go_enter func194,ntmps194
 go_wp2_with fail;refine HN.out.mono ?_;rintro x w' ⟨rfl,rfl⟩;go_wp2_with fail;refine HI.out.mono ?_;rintro e w' (⟨r,o',m',V',rfl,h⟩|⟨er,evt,ev,rfl,h⟩)
 . have HR:=Hd h;clear h HI;go_wp2_with fail;go_ret;exact .inl ⟨r,o',m',V',rfl,HR.out⟩
 . have HR:=Hd h;clear h HI;unfold Zdq;go_wp2_with fail;exact⟨rfl,.inr ⟨er,evt,ev,rfl,HR.out⟩⟩
end
open Go.RowKit
theorem Zm8 (args:Array Value)(w:World):(callFunc 264 args).run prog w=.ok (.enter 264 args) w:=enters_of func264 (by kernel_rfl) rfl args w
theorem Zna (args:Array Value)(w:World):(callFunc 228 args).run prog w=.ok (.enter 228 args) w:=enters_of func228 (by kernel_rfl) rfl args w
structure BoB (ba bf bb:Nat)(ka kb:Int)(g:Nat)(W:World):Prop where
 a:W.cell? ⟨ba,0,none⟩=some (.int .i64 ka)
 f:W.cell? ⟨bf,0,none⟩=some (.func (.func g) #[] #[])
 b:W.cell? ⟨bb,0,none⟩=some (.int .i64 kb)
theorem BoB.keep {ba bf bb:Nat}{ka kb:Int}{g:Nat}(W W':World)(h:BoB ba bf bb ka kb g W)(hk:∀ c,C3 ba bf bb c->W'.heap[c]?=W.heap[c]?):BoB ba bf bb ka kb g W' :=
 ⟨(World.cell?_of_block (w:=W) (a:=⟨ba,0,none⟩) (hk _ (.inl rfl))).trans h.a,(World.cell?_of_block (w:=W) (a:=⟨bf,0,none⟩) (hk _ (.inr (.inl rfl)))).trans h.f,(World.cell?_of_block (w:=W) (a:=⟨bb,0,none⟩) (hk _ (.inr (.inr rfl)))).trans h.b⟩
section
variable {K:Law}{n:Nat}{Od:List Nat->Prop}{room:Nat}{w0 w:World}{mb xb:Nat}{fs:List (Int×BF)}{nx:Int}{o:Own}{m:ManD}{V:Nat->BF}
theorem Zxu {g:Nat}{G:BF->BF->BF}(hG:Zqx K n g G)(eg:∀ args w,(callFunc g args).run prog w=.ok (.enter g args) w){ba bf bb:Nat}{ka kb:Int}{F1 F2:BF}(h1:(ka,F1)∈fs)(h2:(kb,F2)∈fs)(hsat:SatE K n Od room w0 mb fs nx w o m V)(hB:BoB ba bf bb ka kb g w)(hno:∀ c,C3 ba bf bb c->o c=none)(hx:Zer o w xb mb) :
 Calls prog 264 #[.pointer (some ⟨xb,0,none⟩),.pointer (some ⟨ba,0,none⟩),.pointer (some ⟨bf,0,none⟩),.pointer (some ⟨bb,0,none⟩)] w (Zmm K (2^n-1) o w mb m V fun _ V' r=>ef V' r=G F1 F2):=by
 obtain⟨f1,g6,e1⟩:=hsat.find h1;obtain⟨f2,g5,e2⟩:=hsat.find h2;have hk:=hsat.ok;have g0:Below w.heap.size w w.drew:=Zah w 1;obtain⟨s,g8⟩:=hsat.is;have g4:=g8.below hsat.lt g0;have g9:=hsat.lt.mono g0.size;have g2:Zer o w.drew xb mb:=⟨(g0.cell (p:=⟨xb,0,none⟩) (Zab hx.cell)).trans hx.cell,hx.own⟩;have ca:=hB.a;have cf:=(g0.cell (p:=⟨bf,0,none⟩) (Zab hB.f)).trans hB.f;have cb:=(g0.cell (p:=⟨bb,0,none⟩) (Zab hB.b)).trans hB.b;have gd:=Hd (Zdo hsat.is hx hk.handles.nodup g6);have gc:=Hd (Zdo ⟨s,g4⟩ g2 hk.handles.nodup g5);have g3:=hG o w.drew xb mb m V f1 f2 ⟨s,g4⟩ g9 g2 hk.store hsat.vars (hk.handles.ok _ g6) (hk.handles.ok _ g5);rw[show ef V f1=F1 from e1,show ef V f2=F2 from e2] at g3;have g7:AtC K 0 o w mb m V o w.drew m V:=(AtC.refl hsat.is hsat.lt hk.store).below g0;obtain⟨P,hP⟩:∃ P:Ending->World->Prop,P=Zmm K (2^n-1) o w mb m V fun _ V' r=>ef V' r=G F1 F2:=⟨_,rfl⟩
 have gb:Hid (Calls prog g #[.pointer (some ⟨xb,0,none⟩),.int .i64 f1,.int .i64 f2] w.drew fun e w'=>(∃ v,e=.returned v/\(w'.cell? ⟨bf,0,none⟩=some (.func (.func g) #[] #[])/\w'.cell? ⟨bb,0,none⟩=some (.int .i64 kb))/\P (.returned v) w')\/(∃ ch,e=.panicked ch/\P (.panicked ch) w')):=Hd (g3.mono (by
  subst hP;rintro e w' (⟨r,o',m',V',rfl,q1,q2,q3⟩|⟨er,evt,ev,rfl,q⟩)
  . exact .inl ⟨_,rfl,⟨q1.st.chg.cell cf (hno bf (.inr (.inl rfl))),q1.st.chg.cell cb (hno bb (.inr (.inr rfl)))⟩,.inl ⟨r,o',m',V',rfl,(g7.trans q1).mono (by omega),q2,q3⟩⟩
  . exact .inr ⟨_,rfl,.inr ⟨er,evt,ev,rfl,q.after g7 (by omega)⟩⟩))
 rw[<- hP];clear hG h1 h2 hsat hB hx hno g6 g5 e1 e2 hk g0 g8 g4 g9 g2 g3 g7 hP
 go_enter func264,ntmps264
 go_wp2_with fail;refine gd.out.mono ?_;rintro x w' ⟨rfl,rfl⟩;go_upto_region 2 with fail;refine Zeg (fun W:World=>W.cell? ⟨bf,0,none⟩=some (.func (.func g) #[] #[])/\W.cell? ⟨bb,0,none⟩=some (.int .i64 kb)) (fun ch w'=>P (.panicked ch) w') 8 (fun c a w hd h=>⟨hd,h⟩) (by kernel_rfl) ⟨cf,cb⟩ ?_;refine Za3 0 rfl rfl (by kernel_rfl) ?_;apply Exists.intro;refine⟨fun w' hw=>?_,?_⟩
 . obtain⟨q1,q2⟩:=hw;go_simp;rfl
 simp only[Zai];refine Za3 1 rfl rfl (by kernel_rfl) ?_;apply Exists.intro;refine⟨fun w' hw=>?_,?_⟩
 . obtain⟨q1,q2⟩:=hw;go_simp;rfl
 simp only[Zai];refine Za3 2 rfl rfl (by kernel_rfl) ?_;apply Exists.intro;refine⟨fun w' hw=>?_,?_⟩
 . obtain⟨q1,q2⟩:=hw;go_simp;rfl
 simp only[Zai];refine Za3 3 rfl rfl (by kernel_rfl) ?_;apply Exists.intro;refine⟨fun w' hw=>?_,?_⟩
 . obtain⟨q1,q2⟩:=hw;go_simp;rfl
 simp only[Zai];refine Za3 4 rfl rfl (by kernel_rfl) ?_;apply Exists.intro;refine⟨fun w' hw=>?_,?_⟩
 . obtain⟨q1,q2⟩:=hw;go_simp;rfl
 simp only[Zai];refine Zc9 [5] (by kernel_rfl) (fun i hi hS o ho=>?_);simp only[Zba] at hi;subst hi;simp only[Za1] at ho;subst ho;refine⟨rfl,?_⟩;refine Zas (v:=.int .i64 (f2:Nat)) (R:=fun w'=>w.drew=w') (by go_simp) gc.out ?_;rintro w' rfl;refine⟨⟨cf,cb⟩,?_⟩;simp only[Zai];refine Zc9 [6] (by kernel_rfl) (fun i hi hS o ho=>?_);simp only[Zba] at hi;subst hi;simp only[Za1] at ho;subst ho;refine⟨rfl,?_⟩;refine Zh0 (R:=fun v w'=>(w'.cell? ⟨bf,0,none⟩=some (.func (.func g) #[] #[])/\w'.cell? ⟨bb,0,none⟩=some (.int .i64 kb))/\P (.returned v) w') (R2:=fun ch w'=>P (.panicked ch) w') (by go_simp) gb.out ?_ ?_
 .
  rintro v w' ⟨hS,g1⟩;refine⟨hS,?_⟩;have ga:=Hd g1;clear g1;simp only[Zai];refine Za3 7 rfl rfl (by kernel_rfl) ?_;apply Exists.intro;refine⟨fun w' hw=>?_,?_⟩
  . obtain⟨q1,q2⟩:=hw;go_simp;rfl
  simp only[Zai];refine Zjg (by kernel_rfl) ?_;clear hS cf cb ca;go_wp2_with fail;exact ga.out
 . intro ch w' g1;exact⟨rfl,g1⟩
def Zim (G:BF->BF->BF)(C:BF)(Fs:List BF):BF:=Fs.foldl G C
theorem Zq9 (G:BF->BF->BF)(C:BF){Fs:List BF}{i:Nat}(hi:i<Fs.length):Zim G C (Fs.take (i+1))=G (Zim G C (Fs.take i)) Fs[i]:=by
 unfold Zim;rw[List.take_succ_eq_append_getElem hi,List.foldl_append];rfl
structure BoF (b1 bl bf:Nat)(e0:Nat)(a:Option Addr)(c:Nat)(ks:List Int)(g:Nat)(W:World):Prop where
 e:W.cell? ⟨b1,0,none⟩=some (.int .i64 e0)
 l:W.cell? ⟨bl,0,none⟩=some (.slice a ks.length c)
 f:W.cell? ⟨bf,0,none⟩=some (.func (.func g) #[] #[])
 z:Za2 W a ks
theorem Zyb {g:Nat}{G:BF->BF->BF}(hG:Zqx K n g G)(eg:∀ args w,(callFunc g args).run prog w=.ok (.enter g args) w){b1 bl bf e0 c:Nat}{a:Option Addr}{ks:List Int}{Fs:List BF}(he0:e0/2=0)(hlen:Fs.length=ks.length)(hks:∀ i (h:i<ks.length),(ks[i],Fs[i]'(by omega))∈fs)(hsat:SatE K n Od room w0 mb fs nx w o m V)(hB:BoF b1 bl bf e0 a c ks g w)(hno:∀ k,(k=b1\/k=bl\/k=bf\/∃ x,a=some x/\k=x.block)->o k=none)(hx:Zer o w xb mb) :
 Calls prog 228 #[.pointer (some ⟨xb,0,none⟩),.pointer (some ⟨b1,0,none⟩),.pointer (some ⟨bl,0,none⟩),.pointer (some ⟨bf,0,none⟩)] w (Zmm K (ks.length*(2^n-1)) o w mb m V fun _ V' r=>ef V' r=Zim G (ef V e0) Fs):=by
 have hk:=hsat.ok;have ce:=hB.e;have cl:=hB.l;have HB:=Hd hB;have g5:=Hd hno;have gf:=hB.z.len;obtain⟨I,hI⟩:∃ I:Nat->Nat->World->Prop,I=fun i r wr=>∃ o' m' V',AtC K (i*(2^n-1)) o w mb m V o' wr m' V'/\okE (Zaa m'.d) r/\ef V' r=Zim G (ef V e0) (Fs.take i):=⟨_,rfl⟩
 have g6:Hid (I 0 e0 w):=by rw[hI];exact Hd ⟨o,m,V,(AtC.refl hsat.is hsat.lt hk.store).mono (by omega),.inl he0,rfl⟩
 have g1:Hid (∀ i r wr,I i r wr->∀ p v,w.cell? p=some v->o p.block=none->wr.cell? p=some v):=by rw[hI];exact Hd fun i r wr ⟨o',m',V',h,_⟩ p v hc ho=>h.st.chg.cell hc ho
 obtain⟨P,hP⟩:∃ P:Ending->World->Prop,P=Zmm K (ks.length*(2^n-1)) o w mb m V fun _ V' r=>ef V' r=Zim G (ef V e0) Fs:=⟨_,rfl⟩
 have g2:Hid (∀ r wr,I ks.length r wr->P (.returned (.int .i64 (r:Nat))) wr):=by
  rw[hI,hP];exact Hd fun r wr ⟨o',m',V',h,h2,h3⟩=>.inl ⟨r,o',m',V',rfl,h,h2,by rw[<- hlen,List.take_length] at h3;exact h3⟩
 have g0:Hid (∀ i r wr,i<ks.length->I i r wr->∃ f,(Calls prog 129 #[.pointer (some ⟨xb,0,none⟩),.int .i64 (at0 ks i)] wr.drew fun x w'=>x=.returned (.int .i64 (f:Nat))/\wr.drew=w') /\
  Calls prog g #[.pointer (some ⟨xb,0,none⟩),.int .i64 (r:Nat),.int .i64 (f:Nat)] wr.drew fun e w'=>(∃ v,e=.returned v/\(w'.cell? ⟨bf,0,none⟩=some (.func (.func g) #[] #[])/\True)/\∃ r':Nat,v=.int .i64 r'/\I (i+1) r' w')\/(∃ ch,e=.panicked ch/\P (.panicked ch) w')):=by
  rw[hI,hP];refine Hd fun i r wr hi ⟨o',m',V',h,h2,h3⟩=>?_
  have g9:=hks i hi;obtain⟨f,hf,e1⟩:=hsat.find g9;have g4:Below wr.heap.size wr wr.drew:=Zah wr 1;have hd:=h.below g4;have g7:=hx.chg hd.st.chg;have gc:(ks[i],f)∈m'.hs:=by rw[hd.st.hs];exact hf
  have gb:okE (Zaa m'.d) f:=hd.st.ext.ok (hk.handles.ok _ hf);refine⟨f,by rw[Zca hi];exact Zdo hd.st.is g7 (by rw[hd.st.hs];exact hk.handles.nodup) gc,?_⟩;refine(hG o' wr.drew xb mb m' V' r f hd.st.is hd.st.lt g7 hd.st.ok (hd.vars hsat.vars) h2 gb).mono ?_;rintro e w' (⟨r',o2,m2,V2,rfl,q1,q2,q3⟩|⟨er,evt,ev,rfl,q⟩)
  . have hq:=hd.trans q1;refine .inl ⟨_,rfl,⟨hq.st.chg.cell HB.out.f (g5.out bf (.inr (.inr (.inl rfl)))),trivial⟩,r',rfl,o2,m2,V2,hq.mono (by rw[Nat.succ_mul];exact Nat.le_refl _),q2,?_⟩;have gd:ef V' f=Fs[i]'(by omega):=(hd.st.ext.ef (hk.handles.ok _ hf)).trans e1;rw[Zq9 G _ (by omega),q3,h3,gd]
  . refine .inr ⟨_,rfl,.inr ⟨er,evt,ev,rfl,q.after hd ?_⟩⟩;have:=Nat.mul_le_mul_right (2^n-1) (show i+1<=ks.length by omega);rw[Nat.succ_mul] at this;exact this
 rw[<- hP];clear hI hP hG hsat hB hno hx hk hks
 go_enter func228,ntmps228
 go_wp2_with fail
 go_loopw [6,8,12] (fun s6 _ s12 wr=>∃ (i r:Nat),i<=ks.length/\s12=.int .i64 i/\s6=.int .i64 r/\Hid (I i r wr)) (fun _ _ s12 _=>ks.length-(intOf s12).toNat)
 case atStart=>exact⟨0,e0,Nat.zero_le _,rfl,rfl,g6⟩
 case round =>
  obtain⟨i,r,hi,rfl,rfl,HI⟩:=hrel
  by_cases g8:i<ks.length
  .
   have ga:(i:Int)<(ks.length:Int):=by omega
   obtain⟨f,hE,hS⟩:=g0.out i r _ g8 HI.out;obtain⟨b,off,rfl,ck⟩:=HB.out.z.cells i g8;have ck1:=g1.out _ _ _ HI.out _ _ ck (g5.out b (.inr (.inr (.inr ⟨_,rfl,rfl⟩))));have cf1:=g1.out _ _ _ HI.out _ _ HB.out.f (g5.out bf (.inr (.inr (.inl rfl))));have g4:Below wr.heap.size wr wr.drew:=Zah wr 1;have cf2:=(g4.cell (p:=⟨bf,0,none⟩) (Zab cf1)).trans cf1;have HE:=Hd hE;have HS:=Hd hS;clear hE hS g4 cf1 ck ce cl g6 g0 g2 HI;go_upto_region 5 with fail;refine Zeg (fun W:World=>W.cell? ⟨bf,0,none⟩=some (.func (.func g) #[] #[])/\True) (fun ch w'=>P (.panicked ch) w') 8 (fun c a w hd h=>⟨hd,h⟩) (by kernel_rfl) ⟨cf2,trivial⟩ ?_;refine Za3 0 rfl rfl (by kernel_rfl) ?_;apply Exists.intro;refine⟨fun w' hw=>?_,?_⟩
   . obtain⟨q1,q2⟩:=hw;go_simp;rfl
   simp only[Zai];refine Za3 1 rfl rfl (by kernel_rfl) ?_;apply Exists.intro;refine⟨fun w' hw=>?_,?_⟩
   . obtain⟨q1,q2⟩:=hw;go_simp;rfl
   simp only[Zai];refine Za3 2 rfl rfl (by kernel_rfl) ?_;apply Exists.intro;refine⟨fun w' hw=>?_,?_⟩
   . obtain⟨q1,q2⟩:=hw;go_simp;rfl
   simp only[Zai];refine Za3 3 rfl rfl (by kernel_rfl) ?_;apply Exists.intro;refine⟨fun w' hw=>?_,?_⟩
   . obtain⟨q1,q2⟩:=hw;go_simp;rfl
   simp only[Zai];refine Za3 4 rfl rfl (by kernel_rfl) ?_;apply Exists.intro;refine⟨fun w' hw=>?_,?_⟩
   . obtain⟨q1,q2⟩:=hw;go_simp;rfl
   simp only[Zai];refine Zc9 [5] (by kernel_rfl) (fun i hi hS o ho=>?_);simp only[Zba] at hi;subst hi;simp only[Za1] at ho;subst ho;refine⟨rfl,?_⟩;refine Zas (v:=.int .i64 (f:Nat)) (R:=fun w'=>wr.drew=w') (by go_simp) HE.out ?_;rintro w' rfl;refine⟨⟨cf2,trivial⟩,?_⟩;simp only[Zai];refine Zc9 [6] (by kernel_rfl) (fun i hi hS o ho=>?_);simp only[Zba] at hi;subst hi;simp only[Za1] at ho;subst ho;refine⟨rfl,?_⟩;refine Zh0 (R:=fun v w'=>(w'.cell? ⟨bf,0,none⟩=some (.func (.func g) #[] #[])/\True)/\∃ r':Nat,v=.int .i64 r'/\I (i+1) r' w') (R2:=fun ch w'=>P (.panicked ch) w') (by go_simp) HS.out ?_ ?_
   .
    rintro v w' ⟨hS,r',rfl,g3⟩;refine⟨hS,?_⟩;have ge:=Hd g3;clear g3;simp only[Zai];refine Za3 7 rfl rfl (by kernel_rfl) ?_;apply Exists.intro;refine⟨fun w' hw=>?_,?_⟩
    . obtain⟨q1,q2⟩:=hw;go_simp;rfl
    simp only[Zai];refine Zjg (by kernel_rfl) ?_;clear hS cf2 ck1;go_wp2_with fail;go_roundw
    case rel=>exact⟨i+1,r',by omega,by go_num,rfl,ge⟩
    case measure=>simp[intOf];omega
   . intro ch w' g3;exact⟨rfl,g3⟩
  .
   obtain rfl:i=ks.length:=by omega
   have ga:¬ (ks.length:Int)<(ks.length:Int):=by omega
   have HF:=Hd (g2.out r _ HI.out);clear g6 g0 g2 HI ce cl;go_wp2_with fail;exact HF.out
end
open Go.RowKit
section
variable {K:Law}{n k:Nat}{room:Nat}{w0 w w1:World}{mb:Nat}{fs:List (Int×BF)}{nx:Int}{o:Own}{m:ManD}{V:Nat->BF}
def NewF (K:Law)(n room:Nat)(w0:World)(mb:Nat)(fs:List (Int×BF))(nx:Int)(ws0:List Ev)(F:BF)(o:Own)(w:World)(x:Ending)(w':World):Prop :=
 x=.returned (.tuple #[.int .i64 nx,.int .i64 0])/\∃ o' m' V',ChgX NoB o o' w w'/\m'.waits <:+ ws0/\SatE K n (fun _=>True) room w0 mb (fs++[(nx,F)]) (nx+1) w' o' m' V'
theorem Zw8 {C:Nat->Prop}{B:World->Prop}{gop:Nat}{lop:Array Value}{F:BF}(hK:Zbu K)(eg:∀ args w,(callFunc gop args).run prog w=.ok (.enter gop args) w)(ws0:List Ev)
 (hB:∀ W W',B W->(∀ c,C c->W'.heap[c]?=W.heap[c]?)->B W')
 (hop:∀ (o:Own) (W:World) (m:ManD) (V:Nat->BF) (xb:Nat),SatE K n (fun _=>True) room w0 mb fs nx W o m V->B W->(∀ k,C k->k<W.heap.size/\o k=none)->Zer o W xb mb->¬ C xb->Calls prog gop (#[.pointer (some ⟨xb,0,none⟩)]++lop) W (Zmm K k o W mb m V fun _ V' r=>ef V' r=F))
 (h:SatE K n (fun _=>True) room w0 mb fs nx w o m V) (hb1:Below w.heap.size w w1) (hC:∀ c,C c->c<w1.heap.size/\(w.heap.size<=c\/(w0.heap.size<=c/\o c=none/\∀ W,B W->W.heap[c]?=w.heap[c]?))) (hb:B w1) (hst:m.waits <:+ ws0) (hn:nx<=549755813888) (hr:fs.length*2^n+k<=room) :
 Calls prog 126 #[.pointer (some ⟨mb,0,none⟩),.func (.func gop) #[] lop] w1 (NewF K n room w0 mb fs nx ws0 F o w):=by
 have hw0:=h.chg.size;have g0:∀ c,C c->o c=none:=fun c hc=>by
  rcases(hC c hc).2 with h1|⟨_,h1,_⟩
  . exact h.lt.none h1
  . exact h1
 refine(Zs2 hK hB (fun _ _ _ _ _ h _=>h) StL.coll (fun c hc=>by
  rcases(hC c hc).2 with h1|⟨h1,_,_⟩
  . exact Nat.le_trans hw0 h1
  . exact h1) eg (Zzo (k:=k) (F:=F) ws0 none (fun _ e=>by cases e) (fun ev _=>Zhv hn ev) hB hop) (h.below hb1) hb (fun c hc=>⟨(hC c hc).1,g0 c hc⟩) ⟨hst,fun _ e=>by cases e⟩ (by omega)).mono ?_
 rintro x w' ⟨o',m',V',g3,hc,⟨r,m1,rfl,hs,⟨q1,q2,_⟩,_,_,_,_,_,q3,_⟩|⟨er,m0,_,_,g2,⟨_,e7,⟨W',oo,VV,hs'⟩,h5,h6,_⟩,h7⟩⟩
 .
  refine⟨rfl,o',m',V',⟨hc.os.trans hb1.os,hc.tape.trans hb1.tape,hc.output.trans hb1.output,Nat.le_trans hb1.size hc.size,fun j hj ho _=>?_,hc.ext,fun j hj=>Nat.le_trans hb1.size (hc.new j hj)⟩,by rw[q3];exact q2,by rw[<- q1];exact hs⟩
  by_cases g1:C j
  .
   rcases(hC j g1).2 with h1|⟨_,_,h1⟩
   . omega
   . exact h1 w' g3
  . exact(hc.block j (Nat.lt_of_lt_of_le hj hb1.size) ho g1).trans (hb1.block j hj)
 . exfalso;have h8:=hs'.few (h7 e7);have h9:=g2.room;omega
end
open Go.RowKit
theorem Zs7 (args:Array Value)(w:World):(callFunc 148 args).run prog w=.ok (.enter 148 args) w:=enters_of func148 (by kernel_rfl) rfl args w
theorem Zo0 (args:Array Value)(w:World):(callFunc 194 args).run prog w=.ok (.enter 194 args) w:=enters_of func194 (by kernel_rfl) rfl args w
theorem boxes3v (w:World)(x y z:Value)(s t u:TypeId):∃ w3,w3=((w.alloc (.cells #[x] s)).alloc (.cells #[y] t)).alloc (.cells #[z] u)/\Below w.heap.size w w3/\w3.heap.size=w.heap.size+3/\w3.cell? ⟨w.heap.size,0,none⟩=some x/\w3.cell? ⟨w.heap.size+1,0,none⟩=some y/\w3.cell? ⟨w.heap.size+1+1,0,none⟩=some z:=by
 refine⟨_,rfl,((Zaf _ _).alloc (by simp) _).alloc (by simp;omega) _,by simp,?_,?_,?_⟩
 . exact cell1 ((Go.heap_alloc_old _ _ (by simp;omega)).trans ((Go.heap_alloc_old _ _ (by simp)).trans (heap_alloc_new _ _)))
 . have:=heap_alloc_new (w.alloc (.cells #[x] s)) (.cells #[y] t);rw[World.size_alloc] at this;exact cell1 ((Go.heap_alloc_old _ _ (by simp)).trans this)
 . have:=heap_alloc_new ((w.alloc (.cells #[x] s)).alloc (.cells #[y] t)) (.cells #[z] u);rw[World.size_alloc,World.size_alloc] at this;exact cell1 this
def Zi9 (e0:Nat):BF:=fun _=>decide (e0=0)
theorem Zs4 {d:Zae}{V:Nat->BF}(hk:Zao d V){e0:Nat}(h:e0/2=0):ef V e0=Zi9 e0:=by
 rcases(show e0=0\/e0=1 by omega) with rfl|rfl
 . rw[hk.dag.ef0];rfl
 . rw[hk.dag.ef1];rfl
section
variable {K:Law}{n:Nat}{room:Nat}{w0 w:World}{mb:Nat}{fs:List (Int×BF)}{nx:Int}{o:Own}{m:ManD}{V:Nat->BF}{ws0:List Ev}
theorem Zu8 (hK:Zbu K){g:Nat}{G:BF->BF->BF}(hG:Zqx K n g G)(eg:∀ args w,(callFunc g args).run prog w=.ok (.enter g args) w)(h:SatE K n (fun _=>True) room w0 mb fs nx w o m V){ka kb:Int}{F1 F2:BF}(h1:(ka,F1)∈fs)(h2:(kb,F2)∈fs)(hst:m.waits <:+ ws0)(hn:nx<=549755813888)(hr:fs.length*2^n+(2^n-1)<=room) :
 Calls prog 193 #[.pointer (some ⟨mb,0,none⟩),.func (.func g) #[] #[],.int .i64 ka,.int .i64 kb] w (NewF K n room w0 mb fs nx ws0 (G F1 F2) o w):=by
 have g5:∀ (fn:Fn) (first cap:Array Value) (w:World),(Instr.makeFunc fn first cap).run prog w=.ok (.func fn first cap) w:=fun _ _ _ _=>rfl
 obtain⟨w3,g0,g1,g3,c0,c1,c2⟩:=boxes3v w (.func (.func g) #[] #[]) (.int .i64 ka) (.int .i64 kb) 267 3 3;have g4:Hid (_=w3):=Hd g0.symm
 have g2:=Hd (Zw8 (C:=C3 (w.heap.size+1) w.heap.size (w.heap.size+1+1)) (B:=BoB (w.heap.size+1) w.heap.size (w.heap.size+1+1) ka kb g) (F:=G F1 F2) (k:=2^n-1) (lop:=#[.pointer (some ⟨w.heap.size+1,0,none⟩),.pointer (some ⟨w.heap.size,0,none⟩),.pointer (some ⟨w.heap.size+1+1,0,none⟩)]) hK Zm8 ws0 BoB.keep
  (fun o W m V xb hs hB hC hx _=>Zxu hG eg h1 h2 hs hB (fun c hc=>(hC c hc).2) hx) h g1 (by rintro c (rfl|rfl|rfl)<;>exact⟨by omega,.inl (by omega)⟩) ⟨c1,c0,c2⟩ hst hn hr)
 clear g0 g1 g3 c0 c1 c2 h hK hG hst hn hr h1 h2;obtain⟨P,hP⟩:∃ P,P=NewF K n room w0 mb fs nx ws0 (G F1 F2) o w:=⟨_,rfl⟩;rw[<- hP] at g2 ⊢;have HT:Hid (∀ x w',P x w'->∃ a b,x=.returned (.tuple #[.int .i64 a,.int .i64 b])):=Hd (by subst hP;rintro x w' ⟨rfl,_⟩;exact⟨_,_,rfl⟩);clear hP
 go_enter func193,ntmps193
 go_upto_region 1 with fail;rw[g4.out];go_wp2_with fail;refine g2.out.mono ?_;intro x w' hd;obtain⟨a,b,rfl⟩:=HT.out x w' hd;have HD:=Hd hd;clear hd;go_wp2_with fail;exact HD.out
theorem Zvk (hK:Zbu K){g:Nat}{G:BF->BF->BF}(hG:Zqx K n g G)(eg:∀ args w,(callFunc g args).run prog w=.ok (.enter g args) w)(h:SatE K n (fun _=>True) room w0 mb fs nx w o m V){e0 c:Nat}{a:Option Addr}{ks:List Int}{Fs:List BF}(he0:e0/2=0)(hz:Za2 w a ks)(ha:∀ x,a=some x->x.block<w.heap.size/\w0.heap.size<=x.block/\o x.block=none)(hlen:Fs.length=ks.length)(hks:∀ i (h:i<ks.length),(ks[i],Fs[i]'(by omega))∈fs)(hst:m.waits <:+ ws0)(hn:nx<=549755813888)(hr:fs.length*2^n+ks.length*(2^n-1)<=room) :
 Calls prog 147 #[.pointer (some ⟨mb,0,none⟩),.int .i64 e0,.func (.func g) #[] #[],.slice a ks.length c] w (NewF K n room w0 mb fs nx ws0 (Zim G (Zi9 e0) Fs) o w):=by
 have g5:∀ (fn:Fn) (first cap:Array Value) (w:World),(Instr.makeFunc fn first cap).run prog w=.ok (.func fn first cap) w:=fun _ _ _ _=>rfl
 obtain⟨w3,g1,g0,g3,c0,c1,c2⟩:=boxes3v w (.int .i64 e0) (.func (.func g) #[] #[]) (.slice a ks.length c) 159 267 23;have g4:Hid (_=w3):=Hd g1.symm
 have g2:=Hd (Zw8 (C:=fun k=>k=w.heap.size\/k=w.heap.size+1+1\/k=w.heap.size+1\/∃ x,a=some x/\k=x.block) (B:=fun W=>BoF w.heap.size (w.heap.size+1+1) (w.heap.size+1) e0 a c ks g W/\∀ x,a=some x->W.heap[x.block]?=w.heap[x.block]?) (F:=Zim G (Zi9 e0) Fs) (k:=ks.length*(2^n-1)) (lop:=#[.pointer (some ⟨w.heap.size,0,none⟩),.pointer (some ⟨w.heap.size+1+1,0,none⟩),.pointer (some ⟨w.heap.size+1,0,none⟩)]) hK Zna ws0
  (fun W W' hB hk=>⟨⟨(World.cell?_of_block (w:=W) (a:=⟨w.heap.size,0,none⟩) (hk _ (.inl rfl))).trans hB.1.e,(World.cell?_of_block (w:=W) (a:=⟨w.heap.size+1+1,0,none⟩) (hk _ (.inr (.inl rfl)))).trans hB.1.l,(World.cell?_of_block (w:=W) (a:=⟨w.heap.size+1,0,none⟩) (hk _ (.inr (.inr (.inl rfl))))).trans hB.1.f,⟨hB.1.z.len,fun i hi=>by
   obtain⟨b,off,e,hc⟩:=hB.1.z.cells i hi;exact⟨b,off,e,(World.cell?_of_block (w:=W) (a:=⟨b,off+i,none⟩) (hk _ (.inr (.inr (.inr ⟨_,e,rfl⟩))))).trans hc⟩⟩⟩,fun x hx=>(hk _ (.inr (.inr (.inr ⟨x,hx,rfl⟩)))).trans (hB.2 x hx)⟩)
  (fun o W m V xb hs hB hC hx _=>by
   have:=Zyb hG eg he0 hlen hks hs hB.1 (fun k hk=>(hC k hk).2) hx;rw[Zs4 hs.ok.store he0] at this;exact this) h g0 (by
   rintro k (rfl|rfl|rfl|⟨x,hx,rfl⟩)
   . exact⟨by omega,.inl (by omega)⟩
   . exact⟨by omega,.inl (by omega)⟩
   . exact⟨by omega,.inl (by omega)⟩
   . have:=ha x hx;exact⟨by omega,.inr ⟨this.2.1,this.2.2,fun W hW=>hW.2 x hx⟩⟩) ⟨⟨c0,c2,c1,hz.below g0⟩,fun x hx=>g0.block _ (ha x hx).1⟩ hst hn hr)
 clear g1 g0 g3 c0 c1 c2 h hK hG hst hn hr hz ha hks;obtain⟨P,hP⟩:∃ P,P=NewF K n room w0 mb fs nx ws0 (Zim G (Zi9 e0) Fs) o w:=⟨_,rfl⟩;rw[<- hP] at g2 ⊢;have HT:Hid (∀ x w',P x w'->∃ a b,x=.returned (.tuple #[.int .i64 a,.int .i64 b])):=Hd (by subst hP;rintro x w' ⟨rfl,_⟩;exact⟨_,_,rfl⟩);clear hP
 go_enter func147,ntmps147
 go_upto_region 1 with fail;rw[g4.out];go_wp2_with fail;refine g2.out.mono ?_;intro x w' hd;obtain⟨a,b,rfl⟩:=HT.out x w' hd;have HD:=Hd hd;clear hd;go_wp2_with fail;exact HD.out
end
open Go.RowKit
open Go.RowKit
def FxS (K:Law)(n room:Nat)(w0:World)(mb:Nat)(ws0:List Ev)(C:Nat->Prop)(o0:Own)(wb:World)(B:World->Own->Prop)(fs:List (Int×BF))(nx:Int)(W:World):Prop :=
 ∃ o m V,ChgX C o0 o wb W/\m.waits <:+ ws0/\SatE K n (fun _=>True) room w0 mb fs nx W o m V/\B W o
def Zdy (B:World->Own->Prop):Prop:=∀ W o W' o',B W o->ChgX NoB o o' W W'->B W' o'
theorem NoB.sub {C:Nat->Prop}{s:Nat}:∀ k,k<s->NoB k->C k:=fun _ _ e=>e.elim
section
variable {K:Law}{n room:Nat}{w0 w W w' wb:World}{mb:Nat}{fs r:List (Int×BF)}{nx:Int}{o0:Own}{ws0:List Ev}{C:Nat->Prop}{B:World->Own->Prop}{k l:Int}{F G:BF}
theorem FxS.below (hB:Zdy B)(h:FxS K n room w0 mb ws0 C o0 wb B fs nx W)(hb:Below W.heap.size W w'):FxS K n room w0 mb ws0 C o0 wb B fs nx w':=by
 obtain⟨o,m,V,h1,h2,h3,h4⟩:=h;exact⟨o,m,V,h1.trans (ChgX.of_below hb o NoB) NoB.sub,h2,h3.below hb,hB _ _ _ _ h4 (ChgX.of_below hb o NoB)⟩
theorem FxS.ask {f:Nat}{args:Array Value}{R:Ending->World->Prop}(h:FxS K n room w0 mb ws0 C o0 wb B fs nx W)(hc:∀ o m V,SatE K n (fun _=>True) room w0 mb fs nx W o m V->Calls prog f args W R):Calls prog f args W R:=by
 obtain⟨o,m,V,_,_,h3,_⟩:=h;exact hc o m V h3
theorem FxS.same (h:FxS K n room w0 mb ws0 C o0 wb B fs nx W)(hk:(k,F)∈fs)(hl:(l,G)∈fs):Calls prog 58 #[.pointer (some ⟨mb,0,none⟩),.int .i64 k,.int .i64 l] W fun x w'=>∃ b:Bool,x=.returned (.tuple #[.bool b,.int .i64 0])/\(b=true↔F=G)/\W=w' :=
 h.ask fun _ _ _ hs=>Zo9 hs hk hl
theorem FxS.new {f:Nat}{args:Array Value}(hB:Zdy B)(h:FxS K n room w0 mb ws0 C o0 wb B fs nx W)(hc:∀ o m V,m.waits <:+ ws0->SatE K n (fun _=>True) room w0 mb fs nx W o m V->Calls prog f args W (NewF K n room w0 mb fs nx ws0 F o W)) :
 Calls prog f args W fun x w'=>x=.returned (.tuple #[.int .i64 nx,.int .i64 0])/\FxS K n room w0 mb ws0 C o0 wb B (fs++[(nx,F)]) (nx+1) w':=by
 obtain⟨o,m,V,h1,h2,h3,h4⟩:=h;refine(hc o m V h2 h3).mono ?_;rintro x w' ⟨q1,o',m',V',q2,q3,q4⟩;exact⟨q1,o',m',V',h1.trans q2 NoB.sub,q3,q4,hB _ _ _ _ h4 q2⟩
theorem FxS.copy (hK:Zbu K)(hB:Zdy B)(h:FxS K n room w0 mb ws0 C o0 wb B fs nx W)(hn:nx<549755813888)(hk:(k,F)∈fs) :
 Calls prog 119 #[.pointer (some ⟨mb,0,none⟩),.int .i64 k] W fun x w'=>x=.returned (.tuple #[.int .i64 nx,.int .i64 0])/\FxS K n room w0 mb ws0 C o0 wb B (fs++[(nx,F)]) (nx+1) w':=by
 refine h.new hB fun o m V hw hs=>((Zjk hK hs hn hk).mono ?_)
 rintro x w' ⟨q1,o',m',hh⟩;exact⟨q1,o',m',V,ChgX.of_chg hh.chg NoB,by rw[hh.waits];exact hw,hh.sat⟩
theorem FxS.not (hK:Zbu K)(hB:Zdy B)(h:FxS K n room w0 mb ws0 C o0 wb B fs nx W)(hn:nx<549755813888)(hk:(k,F)∈fs) :
 Calls prog 39 #[.pointer (some ⟨mb,0,none⟩),.int .i64 k] W fun x w'=>x=.returned (.tuple #[.int .i64 nx,.int .i64 0])/\FxS K n room w0 mb ws0 C o0 wb B (fs++[(nx,notF F)]) (nx+1) w':=by
 refine h.new hB fun o m V hw hs=>((Zkz hK hs hn hk).mono ?_)
 rintro x w' ⟨q1,o',m',hh⟩;exact⟨q1,o',m',V,ChgX.of_chg hh.chg NoB,by rw[hh.waits];exact hw,hh.sat⟩
theorem FxS.drop1 (hK:Zbu K)(hB:Zdy B)(hb:B2 fs)(h:FxS K n room w0 mb ws0 C o0 wb B (fs++((k,F)::r)) nx W)(hn:nx<549755813888){T:World}(hT:T=W.alloc (.cells #[.int .i64 k] 3)) :
 Calls prog 118 #[.pointer (some ⟨mb,0,none⟩),.slice (some ⟨W.heap.size,0,none⟩) 1 1] T fun x w'=>x=.returned (.int .i64 0)/\FxS K n room w0 mb ws0 C o0 wb B (fs++r) nx w':=by
 subst hT;have g1:∀ o m V,SatE K n (fun _=>True) room w0 mb (fs++([(k,F)]++r)) nx W o m V->o W.heap.size=none:=fun o m V hs=>hs.lt.none (Nat.le_refl _)
 obtain⟨o,m,V,h1,h2,h3,h4⟩:=h;have g0:=Zaf W (.cells #[.int .i64 k] 3);refine(Zjl (c:=1) (hs:=[(k,F)]) (r:=r) hK (h3.below g0) hb hn (a:=some ⟨W.heap.size,0,none⟩) (Zgd W [k] (by simp)) (fun x hx=>by cases hx;exact h3.lt.none (Nat.le_refl _))).mono ?_;rintro x w' ⟨q1,o',m',hh⟩;have hc:=(ChgX.of_below g0 o NoB).trans (ChgX.of_chg hh.chg NoB) NoB.sub;exact⟨q1,o',m',V,h1.trans hc NoB.sub,by rw[hh.waits];exact h2,hh.sat,hB _ _ _ _ h4 hc⟩
end
structure FunC (K:Law)(n room:Nat)(w0:World)(mb:Nat)(ws0:List Ev)(L:Nat)(C:Nat->Prop)(B:Nat->World->Own->Prop)(bs:List (Int×BF))(g:Nat)(lop:Array Value)(Φ:BF->BF)(er:Nat->Int)(c:Int):Prop where
 enters:∀ args w,(callFunc g args).run prog w=.ok (.enter g args) w
 keep:∀ j,Zdy (B j)
 nat:0<=c
 call:∀ (j:Nat),j<=1000000->∀ (o0:Own) (wb W:World) (fs:List (Int×BF)) (nx h:Int) (F:BF),FxS K n room w0 mb ws0 C o0 wb (B j) fs nx W->B2 fs->(∀ p∈bs,p∈fs)->(h,F)∈fs->nx+c<=549755813888->fs.length<=L ->
  Calls prog g (#[.int .i64 h]++lop) W fun e w'=>∃ p nx',e=.returned (.tuple #[.int .i64 p,.int .i64 (er j)])/\nx<=nx'/\nx'<=nx+c /\
   (er j=0->FxS K n room w0 mb ws0 C o0 wb (B (j+1)) (fs++[(p,Φ F)]) nx' w')/\(er j≠0->FxS K n room w0 mb ws0 C o0 wb (B (j+1)) fs nx' w')
def Zj7 (K:Law)(n room:Nat)(w0:World)(mb:Nat)(ws0:List Ev)(C:Nat->Prop)(o0:Own)(wb:World)(B:Nat->World->Own->Prop)(Φ:BF->BF)(er:Nat->Int)(c:Int)(j0:Nat)(F0:BF)(fs:List (Int×BF))(nx:Int)(x:Ending)(w':World):Prop :=
 ∃ (s:Nat) (nx':Int),s<=4096/\nx<=nx'/\nx'<=nx+1+s*c /\
  ((∃ p k,s=k+1/\x=.returned (.tuple #[.int .i64 p,.int .i64 ((k:Nat)+1),.int .i64 0])/\EndF Φ F0 k/\(∀ i,i<s->er (j0+i)=0)/\FxS K n room w0 mb ws0 C o0 wb (B (j0+s)) (fs++[(p,Zez Φ F0 k)]) nx' w') \/
   (∃ k,s=k+1/\x=.returned (.tuple #[.int .i64 0,.int .i64 0,.int .i64 (er (j0+k))])/\er (j0+k)≠0/\OnF Φ F0 k/\(∀ i,i<k->er (j0+i)=0)/\FxS K n room w0 mb ws0 C o0 wb (B (j0+s)) fs nx' w') \/
   (s=4096/\x=.returned (.tuple #[.int .i64 0,.int .i64 0,.int .i64 19])/\OnF Φ F0 s/\(∀ i,i<s->er (j0+i)=0)/\FxS K n room w0 mb ws0 C o0 wb (B (j0+s)) fs nx' w'))
structure GoI (K:Law)(n room:Nat)(w0:World)(mb:Nat)(ws0:List Ev)(C:Nat->Prop)(o0:Own)(wb:World)(B:Nat->World->Own->Prop)(Φ:BF->BF)(er:Nat->Int)(c:Int)(j0:Nat)(F0:BF)(fs:List (Int×BF))(nx:Int)(s:Nat)(k nx':Int)(W:World):Prop where
 st:FxS K n room w0 mb ws0 C o0 wb (B (j0+s)) (fs++[(k,Zez Φ F0 s)]) nx' W
 lo:nx<=nx'
 hi:nx'<=nx+1+s*c
 on:OnF Φ F0 s
 er:∀ i,i<s->er (j0+i)=0
section
variable {K:Law}{n room L:Nat}{w0 wb W:World}{mb g:Nat}{fs bs:List (Int×BF)}{nx:Int}{o0:Own}{ws0:List Ev}{C:Nat->Prop}{B:Nat->World->Own->Prop}{lop:Array Value}{Φ:BF->BF}{er:Nat->Int}{c:Int}
theorem Zpx (hK:Zbu K)(hf:FunC K n room w0 mb ws0 L C B bs g lop Φ er c)(j0:Nat)(hj0:j0<=900000)(h:FxS K n room w0 mb ws0 C o0 wb (B j0) fs nx W)(hb:B2 fs)(hbs:∀ p∈bs,p∈fs){k0:Int}{F0:BF}(hk:(k0,F0)∈fs)(hn:nx+1+4097*c<549755813888)(hl:fs.length+1<=L) :
 Calls prog 114 #[.pointer (some ⟨mb,0,none⟩),.int .i64 k0,.func (.func g) #[] lop] W (Zj7 K n room w0 mb ws0 C o0 wb B Φ er c j0 F0 fs nx):=by
 have ge:=hf.nat;have ga:=Hd (h.copy hK (hf.keep j0) (by omega) hk);have HK:=Hd hK;have g3:=Hd hf;have HB2:=Hd hb;have gh:=Hd hbs;have eg:=hf.enters;obtain⟨P,hP⟩:∃ P,P=Zj7 K n room w0 mb ws0 C o0 wb B Φ er c j0 F0 fs nx:=⟨_,rfl⟩;have HP:Hid (∀ x w',Zj7 K n room w0 mb ws0 C o0 wb B Φ er c j0 F0 fs nx x w'->P x w'):=Hd (by rw[hP];exact fun _ _ e=>e);rw[<- hP];clear hP h hf hb hk hK hbs
 go_enter func114,ntmps114
 go_wp2_with fail;refine ga.out.mono ?_;rintro x w1 ⟨rfl,h1⟩;have H1:=Hd h1;clear h1 ga;go_wp2_with fail
 go_loopw [6,7,8,9,10,11,12] (fun s6 _ _ s9 _ _ _ wr=>∃ (s:Nat) (k nx':Int),s<=4096/\s6=.int .i64 k/\s9=.int .i64 ((s:Nat)+1)/\Hid (GoI K n room w0 mb ws0 C o0 wb B Φ er c j0 F0 fs nx s k nx' wr)) (fun _ _ _ s9 _ _ _ _=>4097-(intOf s9).toNat)
 case atStart=>exact⟨0,nx,nx+1,by omega,rfl,by simp,Hd ⟨H1.out,by omega,by simp,OnF.zero _ _,fun i hi=>by omega⟩⟩
 case round =>
  clear H1;obtain⟨s,k,nx',hs,rfl,rfl,HI⟩:=hrel;have g5:(((s+1:Nat):Nat):Int)*c=s*c+c:=by rw[Int.natCast_add,Int.add_mul];simp
  have g8:(s:Int)*c<=4096*c:=Int.mul_le_mul_of_nonneg_right (by omega) ge;have gc:=HI.out.lo;have gd:=HI.out.hi;have g2:=Hd g5;have g9:=Hd g8
  by_cases gl:s<4096
  .
   have gk:(s:Int)+1<=4096:=by omega
   have HC:=Hd (g3.out.call (j0+s) (by omega) o0 wb wr (fs++[(k,Zez Φ F0 s)]) nx' k (Zez Φ F0 s) HI.out.st (HB2.out.app _) (fun q hq=>List.mem_append_left _ (gh.out q hq)) (by simp) (by omega) (by simp;omega));obtain⟨ez,g6⟩:∃ z,z=er (j0+s):=⟨_,rfl⟩;have g4:=Hd g6;rw[<- g6] at HC;clear g6 g5 g8;go_wp2_with fail;refine HC.out.mono ?_;rintro x w2 ⟨p,nx2,rfl,gi,gj,h0,h1⟩
   by_cases he:ez=0
   .
    have gb:(ez != 0)=false:=by rw[he];rfl
    have g0:=h0 he;rw[List.append_assoc] at g0;have HS:=Hd (g0.same (k:=p) (l:=k) (F:=Φ (Zez Φ F0 s)) (G:=Zez Φ F0 s) (by simp) (by simp));have HD:=Hd (FxS.drop1 HK.out (g3.out.keep _) (r:=[(p,Φ (Zez Φ F0 s))]) HB2.out g0 (by have:=g9.out;omega) rfl);clear h0 h1 g0 HC;subst he;go_wp2_with fail;refine HS.out.mono ?_;rintro x w' ⟨b,rfl,hb,rfl⟩;have g1:=Hd hb;clear hb HS;go_wp2_with fail;refine HD.out.mono ?_;rintro x w3 ⟨rfl,h3⟩;have H3:=Hd h3;clear h3 HD;cases b with
    | true =>
      have HF:=Hd (HP.out _ w3 ⟨s+1,nx2,by omega,by omega,by have:=g2.out;omega,.inl ⟨p,s,rfl,rfl,⟨HI.out.on,g1.out.1 rfl⟩,fun i hi=>by
       rcases Nat.lt_or_ge i s with h|h
       . exact HI.out.er i h
       .
        obtain rfl:i=s:=by omega
        exact g4.out.symm,by rw[<- g1.out.1 rfl];exact H3.out⟩⟩)
      clear HI g1 H3 HP;go_wp2_with fail;refine bodyPost_ret (results_tmp3 rfl _ _ _) rfl ?_;exact HF.out
    | false =>
      have g7:Zez Φ F0 (s+1)≠Zez Φ F0 s:=fun e=>by have:=g1.out.2 e;cases this
      have gg:Hid (GoI K n room w0 mb ws0 C o0 wb B Φ er c j0 F0 fs nx (s+1) p nx2 w3):=Hd ⟨H3.out,by omega,by have:=g2.out;omega,HI.out.on.succ g7,fun i hi=>by
       rcases Nat.lt_or_ge i s with h|h
       . exact HI.out.er i h
       .
        obtain rfl:i=s:=by omega
        exact g4.out.symm⟩
      clear HI g1 H3 g7;go_wp2_with fail;go_roundw
      case rel=>exact⟨s+1,p,nx2,by omega,rfl,by go_num,gg⟩
      case measure=>simp[intOf];omega
   .
    have gb:(ez != 0)=true:=by simp[he]
    have g0:=h1 he;have HD:=Hd (FxS.drop1 HK.out (g3.out.keep _) (r:=[]) HB2.out g0 (by have:=g9.out;omega) rfl);have gf:=Hd he;clear h0 h1 g0 HC he;go_wp2_with fail;refine HD.out.mono ?_;rintro x w3 ⟨rfl,h3⟩;rw[List.append_nil] at h3;have HF:=Hd (HP.out (.returned (.tuple #[.int .i64 0,.int .i64 0,.int .i64 ez])) w3 ⟨s+1,nx2,by omega,by omega,by have:=g2.out;omega,.inr (.inl ⟨s,rfl,by rw[<- g4.out],by rw[<- g4.out];exact gf.out,HI.out.on,HI.out.er,h3⟩)⟩);clear h3 HD HI HP;go_wp2_with fail;refine bodyPost_ret (results_tmp3 rfl _ _ _) rfl ?_;exact HF.out
  .
   obtain rfl:s=4096:=by omega
   have HD:=Hd (FxS.drop1 HK.out (g3.out.keep _) (r:=[]) HB2.out HI.out.st (by omega) rfl);go_wp2_with fail;refine HD.out.mono ?_;rintro x w3 ⟨rfl,h3⟩;rw[List.append_nil] at h3;have HF:=Hd (HP.out (.returned (.tuple #[.int .i64 0,.int .i64 0,.int .i64 19])) w3 ⟨4096,nx',by omega,gc,gd,.inr (.inr ⟨rfl,rfl,HI.out.on,HI.out.er,h3⟩)⟩);clear h3 HD HI HP;go_wp2_with fail;refine bodyPost_ret (results_tmp3 rfl _ _ _) rfl ?_;exact HF.out
end
open Go.RowKit
open Go.RowKit
open Go.RowKit
open Go.RowKit
structure ArgL (fs:List (Int×BF))(w0 w:World)(o:Own)(a:Option Addr)(ks:List Int)(Fs:List BF):Prop where
 z:Za2 w a ks
 own:∀ x,a=some x->x.block<w.heap.size/\w0.heap.size<=x.block/\o x.block=none
 len:Fs.length=ks.length
 mem:∀ i (h:i<ks.length),(ks[i],Fs[i]'(by omega))∈fs
section
variable {K:Law}{n:Nat}{room:Nat}{w0 w:World}{mb:Nat}{fs:List (Int×BF)}{nx:Int}{o:Own}{m:ManD}{V:Nat->BF}{ws0:List Ev}
theorem Zzp (hK:Zbu K)(h:SatE K n (fun _=>True) room w0 mb fs nx w o m V){c:Nat}{a:Option Addr}{ks:List Int}{Fs:List BF}(hl:ArgL fs w0 w o a ks Fs)(hst:m.waits <:+ ws0)(hn:nx<=549755813888)(hr:fs.length*2^n+ks.length*(2^n-1)<=room) :
 Calls prog 59 #[.pointer (some ⟨mb,0,none⟩),.slice a ks.length c] w (NewF K n room w0 mb fs nx ws0 (Zim orF (Zi9 1) Fs) o w):=by
 have HC:=Hd (Zvk (c:=c) hK (Zz3 hK) Zs7 h (e0:=1) rfl hl.z hl.own hl.len hl.mem hst hn hr);clear h hK hl hst hn hr;obtain⟨P,hP⟩:∃ P,P=NewF K n room w0 mb fs nx ws0 (Zim orF (Zi9 1) Fs) o w:=⟨_,rfl⟩;rw[<- hP] at HC ⊢;have HT:Hid (∀ x w',P x w'->∃ a b,x=.returned (.tuple #[.int .i64 a,.int .i64 b])):=Hd (by subst hP;rintro x w' ⟨rfl,_⟩;exact⟨_,_,rfl⟩);clear hP
 go_enter func59,ntmps59
 go_wp2_with fail;refine HC.out.mono ?_;intro x w' hd;obtain⟨a,b,rfl⟩:=HT.out x w' hd;have HD:=Hd hd;clear hd;go_wp2_with fail;exact HD.out
theorem Zv4 (hK:Zbu K)(h:SatE K n (fun _=>True) room w0 mb fs nx w o m V){ka kb:Int}{F1 F2:BF}(h1:(ka,F1)∈fs)(h2:(kb,F2)∈fs)(hst:m.waits <:+ ws0)(hn:nx<=549755813888)(hr:fs.length*2^n+(2^n-1)<=room) :
 Calls prog 120 #[.pointer (some ⟨mb,0,none⟩),.int .i64 ka,.int .i64 kb] w (NewF K n room w0 mb fs nx ws0 (Zm4 F1 F2) o w):=by
 have HC:=Hd (Zu8 hK (Zys hK) Zo0 h h1 h2 hst hn hr);clear h hK h1 h2 hst hn hr;obtain⟨P,hP⟩:∃ P,P=NewF K n room w0 mb fs nx ws0 (Zm4 F1 F2) o w:=⟨_,rfl⟩;rw[<- hP] at HC ⊢;have HT:Hid (∀ x w',P x w'->∃ a b,x=.returned (.tuple #[.int .i64 a,.int .i64 b])):=Hd (by subst hP;rintro x w' ⟨rfl,_⟩;exact⟨_,_,rfl⟩);clear hP
 go_enter func120,ntmps120
 go_wp2_with fail;refine HC.out.mono ?_;intro x w' hd;obtain⟨a,b,rfl⟩:=HT.out x w' hd;have HD:=Hd hd;clear hd;go_wp2_with fail;exact HD.out
end
open Go.RowKit
open Go.RowKit
open Go.RowKit
section
variable {K:Law}{n:Nat}{room:Nat}{w0 w w':World}{mb:Nat}{fs:List (Int×BF)}{nx:Int}{o:Own}{m:ManD}{V:Nat->BF}{ws0:List Ev}
theorem Zzu (hK:Zbu K)(h:SatE K n (fun _=>True) room w0 mb fs nx w o m V)(hw:m.waits <:+ ws0)(hn:nx<=549755813888)(hr:(fs.length+1)*2^n<=room){v:Nat}(hv:v<n) :
 Calls prog 109 #[.pointer (some ⟨mb,0,none⟩),.int .i64 v] w fun x w''=>x=.returned (.tuple #[.int .i64 nx,.int .i64 0])/\Goes K n (fun _=>True) room w0 mb (fs++[(nx,varF v)]) (nx+1) (W2 (SufW ws0)) o w w'':=by
 refine(Zk0 hK h ws0 hw none (fun _ e=>by cases e) (fun _ e=>by cases e) (fun ev _=>Zhv hn ev) (by omega) v hv).mono ?_;rintro x w'' hp;obtain⟨o2,m2,V2,q1,q2,q3,q4⟩:=Zn0 hp Nat.one_le_two_pow hr;exact⟨q3,o2,m2,V2,q1,q2,q4⟩
end
open Go.RowKit
section
variable {K:Law}{n room:Nat}{w0 w W w':World}{mb:Nat}{fs fs':List (Int×BF)}{nx nx':Int}{o:Own}{m:ManD}{V:Nat->BF}{ws0:List Ev}{rs:List (Value×BF)}{f:Nat}{args:Array Value}
theorem Zu6 (h:SatE K n (fun _=>True) room w0 mb fs nx w o m V){ks:List Int}{Fs:List BF}(hl:ks.length<=1000000)(hlen:Fs.length=ks.length)(hm:∀ i (h:i<ks.length),(ks[i],Fs[i]'(by omega))∈fs):ArgL fs w0 (w.alloc (.cells (Za0 ks).toArray 3)) o (some ⟨w.heap.size,0,none⟩) ks Fs :=
 ⟨Zgd w ks hl,fun x hx=>by cases hx;exact⟨by simp,h.chg.size,h.lt.none (Nat.le_refl _)⟩,hlen,hm⟩
end
open Go.RowKit
theorem Zs8 (w:World)(g:Fn)(fs cs:Array Value):(binOp .eql 55 (.func g fs cs) .nilFunc).run prog w=.ok (.bool false) w:=by
 have hd:Op.maxDepth=9999+1:=rfl;have h:(Op.equal 55 (.func g fs cs) .nilFunc).run prog w=.ok false w:=by
  unfold Op.equal;rw[hd];unfold Op.equalIn;simp only[Sem.run_bind,run_underlying underlying55,Result.andThen_ok];simp
 simp only[binOp];simp[h]
theorem Zs9 (w:World):(binOp .eql 55 .nilFunc .nilFunc).run prog w=.ok (.bool true) w:=by
 have hd:Op.maxDepth=9999+1:=rfl;have h:(Op.equal 55 .nilFunc .nilFunc).run prog w=.ok true w:=by
  unfold Op.equal;rw[hd];unfold Op.equalIn;simp only[Sem.run_bind,run_underlying underlying55,Result.andThen_ok];simp
 simp only[binOp];simp[h]
def fnV (nil:Bool)(g:Nat)(lop:Array Value):Value:=if nil then .nilFunc else .func (.func g) #[] lop
theorem Zx4 (w:World)(nil:Bool)(g:Nat)(lop:Array Value):(binOp .eql 55 (fnV nil g lop) .nilFunc).run prog w=.ok (.bool nil) w:=by
 cases nil with
 | true=>exact Zs9 w
 | false=>exact Zs8 w _ _ _
theorem Zvv (w:World)(k:Int)(v:Value):Calls prog 113 #[.pointer none,.int .i64 k,v] w fun x w'=>x=.returned (.int .i64 5)/\w=w':=by
 go_enter func113,ntmps113
 go_wp2_with fail;go_ret;exact⟨rfl,rfl⟩
section
variable {K:Law}{n room L:Nat}{Od:List Nat->Prop}{w0 w wb W:World}{mb g:Nat}{fs bs r:List (Int×BF)}{nx:Int}{o o0:Own}{m:ManD}{V:Nat->BF}{ws0:List Ev}{C:Nat->Prop}{B:Nat->World->Own->Prop}{lop:Array Value}{Φ:BF->BF}{er:Nat->Int}{c:Int}
theorem Zlu (h:SatE K n Od room w0 mb fs nx w o m V){k:Int}{nil:Bool}{e:Int}(he:(e=8/\∀ p∈fs,p.1≠k)\/((∃ F,(k,F)∈fs)/\((nil=true/\e=1)\/(nil=false/\e=0)))) :
 Calls prog 113 #[.pointer (some ⟨mb,0,none⟩),.int .i64 k,fnV nil g lop] w fun x w'=>x=.returned (.int .i64 e)/\w=w':=by
 have hq:=Zx4 w nil g lop;rcases he with ⟨rfl,g1⟩|⟨⟨F,hF⟩,hh⟩
 .
  have g0:=Hd (Zp2 h g1);clear h g1
  go_enter func113,ntmps113
  go_wp2_with fail;refine g0.out.mono ?_;rintro x w' ⟨rfl,rfl⟩;go_wp2_with fail;go_ret;exact⟨rfl,rfl⟩
 .
  have g0:=Hd (Znu h hF);clear h hF;have q1:=Zs9 w;have q2:=Zs8 w (.func g) #[] lop;clear hq;rcases hh with ⟨rfl,rfl⟩|⟨rfl,rfl⟩
  .
   clear q2
   show Calls _ _ #[_,_,.nilFunc] _ _
   go_enter func113,ntmps113
   go_wp2_with fail;refine g0.out.mono ?_;rintro x w' ⟨rfl,rfl⟩;go_wp2_with fail;go_ret;exact⟨rfl,rfl⟩
  .
   clear q1
   show Calls _ _ #[_,_,.func (.func g) #[] lop] _ _
   go_enter func113,ntmps113
   go_wp2_with fail;refine g0.out.mono ?_;rintro x w' ⟨rfl,rfl⟩;go_wp2_with fail;go_ret;exact⟨rfl,rfl⟩
theorem Zj7.three {j0:Nat}{F0:BF}{x:Ending}{w':World}(h:Zj7 K n room w0 mb ws0 C o0 wb B Φ er c j0 F0 fs nx x w'):∃ a b d,x=.returned (.tuple #[.int .i64 a,.int .i64 b,.int .i64 d]):=by
 obtain⟨s,nx',_,_,_,⟨p,k,_,rfl,_⟩|⟨k,_,rfl,_⟩|⟨_,rfl,_⟩⟩:=h
 . exact⟨_,_,_,rfl⟩
 . exact⟨_,_,_,rfl⟩
 . exact⟨_,_,_,rfl⟩
theorem Znr (hK:Zbu K)(hf:FunC K n room w0 mb ws0 L C B bs g lop Φ er c)(j0:Nat)(hj0:j0<=900000)(h:FxS K n room w0 mb ws0 C o0 wb (B j0) fs nx W)(hb:B2 fs)(hbs:∀ p∈bs,p∈fs)(hn:nx+1+4097*c<549755813888)(hl:fs.length+1<=L) :
 Calls prog 40 #[.pointer (some ⟨mb,0,none⟩),.func (.func g) #[] lop] W (Zj7 K n room w0 mb ws0 C o0 wb B Φ er c j0 (fun _=>false) fs nx):=by
 have HM:Hid (Calls prog 113 #[.pointer (some ⟨mb,0,none⟩),.int .i64 0,.func (.func g) #[] lop] W fun x w'=>x=.returned (.int .i64 0)/\W=w'):=Hd (h.ask fun o m V hs=>Zlu (nil:=false) hs (.inr ⟨⟨_,hb.zero⟩,.inr ⟨rfl,rfl⟩⟩));have HG:=Hd (Zpx hK hf j0 hj0 h hb hbs hb.zero hn hl);obtain⟨P,hP⟩:∃ P,P=Zj7 K n room w0 mb ws0 C o0 wb B Φ er c j0 (fun _=>false) fs nx:=⟨_,rfl⟩;have HT:Hid (∀ x w',P x w'->∃ a b d,x=.returned (.tuple #[.int .i64 a,.int .i64 b,.int .i64 d])):=Hd (by subst hP;exact fun x w' h=>h.three);rw[<- hP] at HG ⊢;clear hP h hf hb hbs hK
 go_enter func40,ntmps40
 go_wp2_with fail;refine HM.out.mono ?_;rintro x w' ⟨rfl,rfl⟩;go_wp2_with fail;refine HG.out.mono ?_;intro x w' hd;obtain⟨a,b,d,rfl⟩:=HT.out x w' hd;have HD:=Hd hd;clear hd;go_wp2_with fail;refine bodyPost_ret (results_tmp3 rfl _ _ _) rfl ?_;exact HD.out
theorem Znf (hK:Zbu K)(hf:FunC K n room w0 mb ws0 L C B bs g lop Φ er c)(j0:Nat)(hj0:j0<=900000)(h:FxS K n room w0 mb ws0 C o0 wb (B j0) fs nx W)(hb:B2 fs)(hbs:∀ p∈bs,p∈fs){k0:Int}{F0:BF}(hk:(k0,F0)∈fs)(hn:nx+1+4097*c<549755813888)(hl:fs.length+1<=L) :
 Calls prog 41 #[.pointer (some ⟨mb,0,none⟩),.int .i64 k0,.func (.func g) #[] lop] W (Zj7 K n room w0 mb ws0 C o0 wb B Φ er c j0 F0 fs nx):=by
 have HM:Hid (Calls prog 113 #[.pointer (some ⟨mb,0,none⟩),.int .i64 k0,.func (.func g) #[] lop] W fun x w'=>x=.returned (.int .i64 0)/\W=w'):=Hd (h.ask fun o m V hs=>Zlu (nil:=false) hs (.inr ⟨⟨_,hk⟩,.inr ⟨rfl,rfl⟩⟩));have HG:=Hd (Zpx hK hf j0 hj0 h hb hbs hk hn hl);obtain⟨P,hP⟩:∃ P,P=Zj7 K n room w0 mb ws0 C o0 wb B Φ er c j0 F0 fs nx:=⟨_,rfl⟩;have HT:Hid (∀ x w',P x w'->∃ a b d,x=.returned (.tuple #[.int .i64 a,.int .i64 b,.int .i64 d])):=Hd (by subst hP;exact fun x w' h=>h.three);rw[<- hP] at HG ⊢;clear hP h hf hb hbs hK
 go_enter func41,ntmps41
 go_wp2_with fail;refine HM.out.mono ?_;rintro x w' ⟨rfl,rfl⟩;go_wp2_with fail;refine HG.out.mono ?_;intro x w' hd;obtain⟨a,b,d,rfl⟩:=HT.out x w' hd;have HD:=Hd hd;clear hd;go_wp2_with fail;refine bodyPost_ret (results_tmp3 rfl _ _ _) rfl ?_;exact HD.out
theorem FxS.withB {B B':World->Own->Prop}(h:FxS K n room w0 mb ws0 C o0 wb B fs nx W)(hB:∀ o m V,SatE K n (fun _=>True) room w0 mb fs nx W o m V->B W o->B' W o):FxS K n room w0 mb ws0 C o0 wb B' fs nx W:=by
 obtain⟨o,m,V,h1,h2,h3,h4⟩:=h;exact⟨o,m,V,h1,h2,h3,hB _ _ _ h3 h4⟩
def BoxA (b k:Nat)(v:Value)(W:World)(o:Own):Prop:=W.cell? ⟨b,k,none⟩=some v/\o b=none
theorem BoxA.keep {b k:Nat}{v:Value}:Zdy (BoxA b k v):=fun _ _ _ _ h hc=>⟨hc.cell h.1 h.2 (fun e=>e),hc.none' (Zab h.1) h.2⟩
theorem Zdy.and {A B:World->Own->Prop}(hA:Zdy A)(hB:Zdy B):Zdy fun W o=>A W o/\B W o:=fun _ _ _ _ h hc=>⟨hA _ _ _ _ h.1 hc,hB _ _ _ _ h.2 hc⟩
theorem Zpq {B:World->Own->Prop}(hB:Zdy B)(h:FxS K n room w0 mb ws0 C o0 wb B fs nx W){vs:Array Value}{t:TypeId}{k:Nat}{v:Value}(hv:vs[k]?=some v):FxS K n room w0 mb ws0 C o0 wb (fun W' o=>B W' o/\BoxA W.heap.size k v W' o) fs nx (W.alloc (.cells vs t)):=by
 obtain⟨o,m,V,h1,h2,h3,h4⟩:=h;have hb:=Zaf W (.cells vs t);have hc:=ChgX.of_below hb o NoB;refine⟨o,m,V,h1.trans hc NoB.sub,h2,h3.below hb,hB _ _ _ _ h4 hc,?_,h3.lt.none (Nat.le_refl _)⟩;rw[cell_of_row _ _ k _ _ _ (heap_alloc_new W (.cells vs t))];exact hv
theorem Zv5 (F G:BF):Zim orF (Zi9 1) [F,G]=orF F G:=by
 funext ρ
 show iteB (iteB false true (F ρ)) true (G ρ)=iteB (F ρ) true (G ρ)
 cases F ρ<;>cases G ρ<;>rfl
theorem FxS.or2 (hK:Zbu K){B:World->Own->Prop}(hB:Zdy B)(h:FxS K n room w0 mb ws0 C o0 wb B fs nx W){k1 k2:Int}{F1 F2:BF}(h1:(k1,F1)∈fs)(h2:(k2,F2)∈fs)(hn:nx<=549755813888)(hr:(fs.length+2)*2^n<=room){T:World}(hT:T=W.alloc (.cells #[.int .i64 k1,.int .i64 k2] 3)) :
 Calls prog 59 #[.pointer (some ⟨mb,0,none⟩),.slice (some ⟨W.heap.size,0,none⟩) 2 2] T fun x w'=>x=.returned (.tuple #[.int .i64 nx,.int .i64 0])/\FxS K n room w0 mb ws0 C o0 wb B (fs++[(nx,orF F1 F2)]) (nx+1) w':=by
 subst hT;have hb:=Zaf W (.cells #[.int .i64 k1,.int .i64 k2] 3);obtain⟨o,m,V,q1,q2,q3,q4⟩:=h;have hc:=ChgX.of_below hb o NoB
 have ha:=Zu6 q3 (ks:=[k1,k2]) (Fs:=[F1,F2]) (by simp) rfl (fun i hi=>by
  rcases(show i=0\/i=1 by simp at hi;omega) with rfl|rfl
  . exact h1
  . exact h2)
 refine(Zzp (c:=2) hK (q3.below hb) ha q2 hn (by rw[Nat.add_mul] at hr;simp;omega)).mono ?_;rintro x w' ⟨r1,o',m',V',r2,r3,r4⟩;rw[Zv5] at r4;exact⟨r1,o',m',V',(q1.trans hc NoB.sub).trans r2 NoB.sub,r3,r4,hB _ _ _ _ q4 (hc.trans r2 NoB.sub)⟩
end
open Go.RowKit
def Zsb (C:Nat->Prop)(B:World->Own->Prop):Prop:=∀ W o W' o',B W o->ChgX C o o' W W'->B W' o'
section
variable {K:Law}{n room L:Nat}{w0 w wb W:World}{mb g:Nat}{fs bs r:List (Int×BF)}{nx:Int}{o o0:Own}{m:ManD}{V:Nat->BF}{ws0:List Ev}{C:Nat->Prop}{B:Nat->World->Own->Prop}{lop:Array Value}{Φ:BF->BF}{er:Nat->Int}{c:Int}
theorem FunC.callB (hf:FunC K n room w0 mb ws0 L C B bs g lop Φ er c){B':World->Own->Prop}(hB':Zsb C B')(j:Nat)(hj:j<=1000000){h:Int}{F:BF}(hst:FxS K n room w0 mb ws0 C o0 wb (fun W o=>B j W o/\B' W o) fs nx W)(hb:B2 fs)(hbs:∀ p∈bs,p∈fs)(hk:(h,F)∈fs)(hn:nx+c<=549755813888)(hl:fs.length<=L) :
 Calls prog g (#[.int .i64 h]++lop) W fun e w'=>∃ p nx',e=.returned (.tuple #[.int .i64 p,.int .i64 (er j)])/\nx<=nx'/\nx'<=nx+c /\
  (er j=0->FxS K n room w0 mb ws0 C o0 wb (fun W o=>B (j+1) W o/\B' W o) (fs++[(p,Φ F)]) nx' w')/\(er j≠0->FxS K n room w0 mb ws0 C o0 wb (fun W o=>B (j+1) W o/\B' W o) fs nx' w'):=by
 obtain⟨o,m,V,h1,h2,h3,h4,h5⟩:=hst;have g0:∀ {B1:World->Own->Prop} {fs1:List (Int×BF)} {nx1:Int} {w':World},FxS K n room w0 mb ws0 C o W B1 fs1 nx1 w'->FxS K n room w0 mb ws0 C o0 wb (fun W o=>B1 W o/\B' W o) fs1 nx1 w':=by
  rintro B1 fs1 nx1 w' ⟨o',m',V',q1,q2,q3,q4⟩;exact⟨o',m',V',h1.trans q1 (fun _ _ e=>e),q2,q3,q4,hB' _ _ _ _ h5 q1⟩
 refine(hf.call j hj o W W fs nx h F ⟨o,m,V,ChgX.of_below (Below.refl _ _) o C,h2,h3,h4⟩ hb hbs hk hn hl).mono ?_;rintro e w' ⟨p,nx',q1,q2,q3,q4,q5⟩;exact⟨p,nx',q1,q2,q3,fun e=>g0 (q4 e),fun e=>g0 (q5 e)⟩
end
open Go.RowKit
theorem Zfs {α:Type}:∀ (ks:List Int) (l:List (Int×α)),(∀ k∈ks,1<k)->Ze8 l ks=l.filter fun p=>decide (p.1∉ks)
 | [],l,_=>by
   show l=_
   rw[List.filter_eq_self.2];intro p _;simp
 | k::ks,l,h=>by
   show Ze8 (if 1<k then delK k l else l) ks=_
   rw[if_pos (h k (List.mem_cons_self ..)),Zfs ks (delK k l) fun q hq=>h q (List.mem_cons_of_mem _ hq)];unfold delK;rw[List.filter_filter];refine List.filter_congr fun p _=>?_
   by_cases h1:p.1=k<;>by_cases h2:p.1∈ks<;>simp[h1,h2]
def BoxB (b:Nat)(v:Value)(t:TypeId)(W:World)(o:Own):Prop:=W.heap[b]?=some (.cells #[v] t (0,0))/\o b=none
theorem BoxB.lt {b:Nat}{v:Value}{t:TypeId}{W:World}{o:Own}(h:BoxB b v t W o):b<W.heap.size:=(Array.getElem?_eq_some_iff.1 h.1).1
theorem BoxB.keepC {C:Nat->Prop}{b:Nat}{v:Value}{t:TypeId}(h:¬ C b):Zsb C (BoxB b v t):=fun _ _ _ _ hb hc=>⟨(hc.block _ hb.lt hb.2 h).trans hb.1,hc.none' hb.lt hb.2⟩
theorem BoxB.cell {b:Nat}{v:Value}{t:TypeId}{W:World}{o:Own}(h:BoxB b v t W o):W.cell? ⟨b,0,none⟩=some v:=cell1 h.1
theorem BoxB.fr {b:Nat}{v:Value}{t:TypeId}{W:World}{o:Own}(h:BoxB b v t W o):W.frozen? ⟨b,0,none⟩=false:=by simp[World.frozen?,h.1]
theorem BoxB.wr {D:Nat->Prop}{b:Nat}{v:Value}{t:TypeId}{W W':World}{o:Own}(h:BoxB b v t W o)(hw:Wr D W W')(hn:¬ D b):BoxB b v t W' o:=⟨(hw.keep _ h.lt hn).trans h.1,h.2⟩
theorem BoxB.set {b:Nat}{v u:Value}{t:TypeId}{W:World}{o:Own}(h:BoxB b v t W o):BoxB b u t (W.setCell ⟨b,0,none⟩ u) o:=⟨Zag h.1 u,h.2⟩
theorem LawL.wr {D:Nat->Prop}{W W':World}{o:Own}{base:Nat}{v:Value}{ks:List Int}(h:LawL W o base v ks)(hw:Wr D W W')(hn:∀ k,v.ownBlock=some k->¬ D k):LawL W' o base v ks :=
 ⟨h.own.same fun k hk=>hw.keep k (h.own.lt k hk).2 (hn k hk),h.no⟩
theorem LawL.chgC {C:Nat->Prop}{W W':World}{o o':Own}{base:Nat}{v:Value}{ks:List Int}(h:LawL W o base v ks)(hc:ChgX C o o' W W')(hn:∀ k,C k->k<base):LawL W' o' base v ks :=
 ⟨h.own.same fun k hk=>hc.block k (h.own.lt k hk).2 (h.no k hk) (fun e=>by have:=hn k e;have:=(h.own.lt k hk).1;omega),fun k hk=>hc.none' (h.own.lt k hk).2 (h.no k hk)⟩
theorem Zp0 (W:World)(o:Own)(base:Nat):LawL W o base (.slice none 0 0) []:=⟨Zl1 _ _ _,fun k hk=>by cases hk⟩
structure RkB (base mb:Nat)(Bj:World->Own->Prop)(vl ul:Value)(wh:Bool)(e:Int)(vh uh:Value)(ls hv:List Int)(W:World)(o:Own):Prop where
 b:Bj W o
 b0:BoxB base (.pointer (some ⟨mb,0,none⟩)) 41 W o
 b1:BoxB (base+1) vl 23 W o
 b2:BoxB (base+2) (.bool wh) 4 W o
 b3:BoxB (base+3) (.int .i64 e) 25 W o
 b4:BoxB (base+4) vh 23 W o
 l:LawL W o (base+5) ul ls
 h:LawL W o (base+5) uh hv
 ne:∀ k,ul.ownBlock=some k->uh.ownBlock≠some k
section
variable {K:Law}{n room L:Nat}{w0 w wb W W':World}{mb g base:Nat}{fs X bs r:List (Int×BF)}{nx:Int}{o o0:Own}{m:ManD}{V:Nat->BF}{ws0:List Ev}{C D:Nat->Prop}{Bj B B':World->Own->Prop}{vl ul vh uh:Value}{wh:Bool}{e:Int}{ls hv:List Int}
theorem RkB.keepC (hC:∀ k,C k->k<base)(hB:Zsb C Bj):Zsb C (RkB base mb Bj vl ul wh e vh uh ls hv):=fun W o W' o' h hc =>
 ⟨hB _ _ _ _ h.b hc,BoxB.keepC (fun q=>by have:=hC _ q;omega) _ _ _ _ h.b0 hc,BoxB.keepC (fun q=>by have:=hC _ q;omega) _ _ _ _ h.b1 hc,BoxB.keepC (fun q=>by have:=hC _ q;omega) _ _ _ _ h.b2 hc,BoxB.keepC (fun q=>by have:=hC _ q;omega) _ _ _ _ h.b3 hc,BoxB.keepC (fun q=>by have:=hC _ q;omega) _ _ _ _ h.b4 hc,
  h.l.chgC hc (fun k q=>by have:=hC _ q;omega),h.h.chgC hc (fun k q=>by have:=hC _ q;omega),h.ne⟩
theorem FxS.wr (h:FxS K n room w0 mb ws0 C o0 wb B X nx W)(hs:wb.heap.size<=base)(hs0:w0.heap.size<=base)(hw:Wr D W W')(hD:∀ k,D k->base<=k)(hno:∀ o,B W o->∀ k,D k->o k=none)(hB:∀ o,Zaj o W->B W o->B' W' o):FxS K n room w0 mb ws0 C o0 wb B' X nx W':=by
 obtain⟨o,m,V,h1,h2,h3,h4⟩:=h;exact⟨o,m,V,h1.trans (ChgX.of_wr (C:=D) hw o (fun _ _ q=>q)) (fun k hk q=>by have:=hD k q;omega),h2,h3.other hw (fun k _ q=>⟨Nat.le_trans hs0 (hD k q),hno o h4 k q⟩),hB o h3.lt h4⟩
def LowB (base:Nat)(B:World->Own->Prop):Prop:=∀ W W' o,B W o->(∀ k,k<base->W'.heap[k]?=W.heap[k]?)->W.heap.size<=W'.heap.size->B W' o
theorem Zbk {W:World}{b:Nat}(v:Value):Wr (· = b) W (W.setCell ⟨b,0,none⟩ v):=(Wr.refl (· = b) W).setCell (p:=⟨b,0,none⟩) (.inl rfl) v
theorem Zqt {b:Nat}(hw:Wr (· = b) W W')(hb:base<=b)(k:Nat)(hk:k<base)(hl:base<=W.heap.size):W'.heap[k]?=W.heap[k]?:=hw.keep k (by omega) (fun e=>by have:k=b:=e;omega)
abbrev RkF (K:Law)(n room:Nat)(w0:World)(mb:Nat)(ws0:List Ev)(C:Nat->Prop)(o0:Own)(wb:World)(base:Nat)(Bj:World->Own->Prop)(X:List (Int×BF))(nx:Int)(vl ul:Value)(wh:Bool)(e:Int)(vh uh:Value)(ls hv:List Int)(W:World):Prop :=
 FxS K n room w0 mb ws0 C o0 wb (RkB base mb Bj vl ul wh e vh uh ls hv) X nx W
theorem RkF.set1 (h:RkF K n room w0 mb ws0 C o0 wb base Bj X nx vl ul wh e vh uh ls hv W)(hs:wb.heap.size<=base)(hs0:w0.heap.size<=base)(hB:LowB base Bj)(v:Value):RkF K n room w0 mb ws0 C o0 wb base Bj X nx v ul wh e vh uh ls hv (W.setCell ⟨base+1,0,none⟩ v) :=
 FxS.wr h hs hs0 (Zbk v) (fun k q=>by subst q;omega) (fun o hb k q=>by subst q;exact hb.b1.2) fun o hlt hb =>
  ⟨hB _ _ _ hb.b (fun k hk=>Zqt (Zbk v) (by omega) k hk (Nat.le_of_lt hb.b0.lt)) (Zbk v).size,hb.b0.wr (Zbk v) (by show ¬ base=_;omega),hb.b1.set,hb.b2.wr (Zbk v) (by show ¬ _=_;omega),hb.b3.wr (Zbk v) (by show ¬ _=_;omega),hb.b4.wr (Zbk v) (by show ¬ _=_;omega),
   hb.l.wr (Zbk v) (fun k hk q=>by have:=(hb.l.own.lt k hk).1;have:k=base+1:=q;omega),hb.h.wr (Zbk v) (fun k hk q=>by have:=(hb.h.own.lt k hk).1;have:k=base+1:=q;omega),hb.ne⟩
theorem RkF.set2 (h:RkF K n room w0 mb ws0 C o0 wb base Bj X nx vl ul wh e vh uh ls hv W)(hs:wb.heap.size<=base)(hs0:w0.heap.size<=base)(hB:LowB base Bj)(v:Bool):RkF K n room w0 mb ws0 C o0 wb base Bj X nx vl ul v e vh uh ls hv (W.setCell ⟨base+2,0,none⟩ (.bool v)) :=
 FxS.wr h hs hs0 (Zbk (.bool v)) (fun k q=>by subst q;omega) (fun o hb k q=>by subst q;exact hb.b2.2) fun o hlt hb =>
  ⟨hB _ _ _ hb.b (fun k hk=>Zqt (Zbk (.bool v)) (by omega) k hk (Nat.le_of_lt hb.b0.lt)) (Zbk (.bool v)).size,hb.b0.wr (Zbk (.bool v)) (by show ¬ base=_;omega),hb.b1.wr (Zbk (.bool v)) (by show ¬ _=_;omega),hb.b2.set,hb.b3.wr (Zbk (.bool v)) (by show ¬ _=_;omega),hb.b4.wr (Zbk (.bool v)) (by show ¬ _=_;omega),
   hb.l.wr (Zbk (.bool v)) (fun k hk q=>by have:=(hb.l.own.lt k hk).1;have:k=base+2:=q;omega),hb.h.wr (Zbk (.bool v)) (fun k hk q=>by have:=(hb.h.own.lt k hk).1;have:k=base+2:=q;omega),hb.ne⟩
theorem RkF.set3 (h:RkF K n room w0 mb ws0 C o0 wb base Bj X nx vl ul wh e vh uh ls hv W)(hs:wb.heap.size<=base)(hs0:w0.heap.size<=base)(hB:LowB base Bj)(v:Int):RkF K n room w0 mb ws0 C o0 wb base Bj X nx vl ul wh v vh uh ls hv (W.setCell ⟨base+3,0,none⟩ (.int .i64 v)) :=
 FxS.wr h hs hs0 (Zbk (.int .i64 v)) (fun k q=>by subst q;omega) (fun o hb k q=>by subst q;exact hb.b3.2) fun o hlt hb =>
  ⟨hB _ _ _ hb.b (fun k hk=>Zqt (Zbk (.int .i64 v)) (by omega) k hk (Nat.le_of_lt hb.b0.lt)) (Zbk (.int .i64 v)).size,hb.b0.wr (Zbk (.int .i64 v)) (by show ¬ base=_;omega),hb.b1.wr (Zbk (.int .i64 v)) (by show ¬ _=_;omega),hb.b2.wr (Zbk (.int .i64 v)) (by show ¬ _=_;omega),hb.b3.set,hb.b4.wr (Zbk (.int .i64 v)) (by show ¬ _=_;omega),
   hb.l.wr (Zbk (.int .i64 v)) (fun k hk q=>by have:=(hb.l.own.lt k hk).1;have:k=base+3:=q;omega),hb.h.wr (Zbk (.int .i64 v)) (fun k hk q=>by have:=(hb.h.own.lt k hk).1;have:k=base+3:=q;omega),hb.ne⟩
theorem RkF.set4 (h:RkF K n room w0 mb ws0 C o0 wb base Bj X nx vl ul wh e vh uh ls hv W)(hs:wb.heap.size<=base)(hs0:w0.heap.size<=base)(hB:LowB base Bj)(v:Value):RkF K n room w0 mb ws0 C o0 wb base Bj X nx vl ul wh e v uh ls hv (W.setCell ⟨base+4,0,none⟩ v) :=
 FxS.wr h hs hs0 (Zbk v) (fun k q=>by subst q;omega) (fun o hb k q=>by subst q;exact hb.b4.2) fun o hlt hb =>
  ⟨hB _ _ _ hb.b (fun k hk=>Zqt (Zbk v) (by omega) k hk (Nat.le_of_lt hb.b0.lt)) (Zbk v).size,hb.b0.wr (Zbk v) (by show ¬ base=_;omega),hb.b1.wr (Zbk v) (by show ¬ _=_;omega),hb.b2.wr (Zbk v) (by show ¬ _=_;omega),hb.b3.wr (Zbk v) (by show ¬ _=_;omega),hb.b4.set,
   hb.l.wr (Zbk v) (fun k hk q=>by have:=(hb.l.own.lt k hk).1;have:k=base+4:=q;omega),hb.h.wr (Zbk v) (fun k hk q=>by have:=(hb.h.own.lt k hk).1;have:k=base+4:=q;omega),hb.ne⟩
theorem RkF.appL (h:RkF K n room w0 mb ws0 C o0 wb base Bj X nx vl ul wh e vh uh ls hv W)(hs:wb.heap.size<=base)(hs0:w0.heap.size<=base)(hB:LowB base Bj){v:Value}{k:Int}(hown:OwnC 3 W' (base+5) v (Za0 ls++[.int .i64 k]))(g1:W'.os=W.os)(g2:W'.tape=W.tape)(g3:W'.output=W.output)(g4:W.heap.size<=W'.heap.size)(hk:Zch ul v W W') :
 RkF K n room w0 mb ws0 C o0 wb base Bj X nx vl v wh e vh uh (ls++[k]) hv W':=by
 have hw:=Zlc g1 g2 g3 g4 hk;obtain⟨lD,g7⟩:∃ D:Nat->Prop,D=fun q=>ul.ownBlock=some q/\base+5<=q:=⟨_,rfl⟩
 have g0:∀ q,ul.ownBlock=some q->base+5<=q:=by
  obtain⟨_,_,_,_,_,_,hb⟩:=h;exact fun q hq=>(hb.l.own.lt q hq).1
 refine FxS.wr h hs hs0 hw (fun q hq=>by have:=g0 q hq;omega) (fun o hb q hq=>hb.l.no q hq) fun o g5 hb=>?_
 refine⟨hB _ _ _ hb.b (fun q hq=>hw.keep q (by have:=hb.b0.lt;omega) (fun e=>by have:=g0 q e;omega)) hw.size,hb.b0.wr hw (fun e=>by have:=g0 _ e;omega),hb.b1.wr hw (fun e=>by have:=g0 _ e;omega),hb.b2.wr hw (fun e=>by have:=g0 _ e;omega),hb.b3.wr hw (fun e=>by have:=g0 _ e;omega),hb.b4.wr hw (fun e=>by have:=g0 _ e;omega),
  hb.l.app g5 hown hk,hb.h.wr hw (fun q hq e=>hb.ne q e hq),fun q hq=>?_⟩
 rcases hk.loc with e|⟨q',e,g6⟩
 . rw[e] at hq;exact hb.ne q hq
 .
  rw[e] at hq;have e3:q'=q:=by injection hq
  intro e2;have:=(hb.h.own.lt q e2).2;omega
theorem RkF.appH (h:RkF K n room w0 mb ws0 C o0 wb base Bj X nx vl ul wh e vh uh ls hv W)(hs:wb.heap.size<=base)(hs0:w0.heap.size<=base)(hB:LowB base Bj){v:Value}{k:Int}(hown:OwnC 3 W' (base+5) v (Za0 hv++[.int .i64 k]))(g1:W'.os=W.os)(g2:W'.tape=W.tape)(g3:W'.output=W.output)(g4:W.heap.size<=W'.heap.size)(hk:Zch uh v W W') :
 RkF K n room w0 mb ws0 C o0 wb base Bj X nx vl ul wh e vh v ls (hv++[k]) W':=by
 have hw:=Zlc g1 g2 g3 g4 hk;have g0:∀ q,uh.ownBlock=some q->base+5<=q:=by
  obtain⟨_,_,_,_,_,_,hb⟩:=h;exact fun q hq=>(hb.h.own.lt q hq).1
 refine FxS.wr h hs hs0 hw (fun q hq=>by have:=g0 q hq;omega) (fun o hb q hq=>hb.h.no q hq) fun o g5 hb=>?_
 refine⟨hB _ _ _ hb.b (fun q hq=>hw.keep q (by have:=hb.b0.lt;omega) (fun e=>by have:=g0 q e;omega)) hw.size,hb.b0.wr hw (fun e=>by have:=g0 _ e;omega),hb.b1.wr hw (fun e=>by have:=g0 _ e;omega),hb.b2.wr hw (fun e=>by have:=g0 _ e;omega),hb.b3.wr hw (fun e=>by have:=g0 _ e;omega),hb.b4.wr hw (fun e=>by have:=g0 _ e;omega),
  hb.l.wr hw (fun q hq e=>hb.ne q hq e),hb.h.app g5 hown hk,fun q hq e=>?_⟩
 rcases hk.loc with e1|⟨q',e1,g6⟩
 . rw[e1] at e;exact hb.ne q hq e
 .
  rw[e1] at e;have e3:q'=q:=by injection e
  have:=(hb.l.own.lt q hq).2;omega
theorem FxS.diff2 (hK:Zbu K)(hB:Zdy B)(h:FxS K n room w0 mb ws0 C o0 wb B fs nx W){k1 k2:Int}{F1 F2:BF}(h1:(k1,F1)∈fs)(h2:(k2,F2)∈fs)(hn:nx<=549755813888)(hr:(fs.length+1)*2^n<=room) :
 Calls prog 120 #[.pointer (some ⟨mb,0,none⟩),.int .i64 k1,.int .i64 k2] W fun x w'=>x=.returned (.tuple #[.int .i64 nx,.int .i64 0])/\FxS K n room w0 mb ws0 C o0 wb B (fs++[(nx,Zm4 F1 F2)]) (nx+1) w' :=
 h.new hB fun o m V hw hs=>Zv4 hK hs h1 h2 hw hn (by rw[Nat.add_mul] at hr;omega)
end
open Go.RowKit
theorem LawL.ints {W:World}{o:Own}{base:Nat}{v:Value}{ks:List Int}(h:LawL W o base v ks)(hl:ks.length<=1000000):∃ a c,v=.slice a ks.length c/\Za2 W a ks/\∀ x,a=some x->o x.block=none:=by
 obtain⟨a,c,e,_⟩:=h.own.slice;have l1:(Za0 ks).length=ks.length:=by simp[Za0]
 rw[l1] at e;refine⟨a,c,e,⟨by omega,fun k hk=>?_⟩,fun x hx=>?_⟩
 .
  obtain⟨g,cap,e3,_⟩:=h.own.shape (by rw[l1];omega);rw[e] at e3;injection e3 with e3
  subst e3;have hc:=h.own;rw[e] at hc;refine⟨g,0,rfl,?_⟩;rw[Nat.zero_add,hc.cell k (by rw[l1];exact hk),Za0,List.getElem?_map,getElem?_at0 hk];rfl
 . subst hx;exact h.no x.block (by rw[e];rfl)
section
variable {K:Law}{n room L:Nat}{w0 w wb W W':World}{mb g base:Nat}{fs X bs r:List (Int×BF)}{nx:Int}{o o0:Own}{m:ManD}{V:Nat->BF}{ws0:List Ev}{C D:Nat->Prop}{Bj B B':World->Own->Prop}{vl ul vh uh:Value}{wh:Bool}{e:Int}{ls hv:List Int}
theorem Zzz {hv:List Int}(hnd:hv.Nodup)(hin:∀ k∈hv,∃ F,(k,F)∈X):∀ j,j<hv.length->∃ F,(at0 hv j,F)∈Ze8 X (hv.take j):=fun j hj=>by
 rw[Zca hj];obtain⟨F,hF⟩:=hin _ (List.getElem_mem hj);refine⟨F,Zjo hF fun hc=>?_⟩;obtain⟨i,hi,e⟩:=List.getElem_of_mem hc;have hi2:i<j:=by simp at hi;omega
 rw[List.getElem_take] at e;exact(List.pairwise_iff_getElem.1 hnd) i j (by simp at hi;omega) hj hi2 e
theorem Zud (hK:Zbu K)(hC:∀ k,C k->k<base)(hB:Zdy Bj)(h:RkF K n room w0 mb ws0 C o0 wb base Bj X nx vl ul wh 0 uh uh ls hv W)(hnx:nx<549755813888)(hl:hv.length<=1000000)(hnd:hv.Nodup)(h1:∀ k∈hv,1<k)(hin:∀ k∈hv,∃ F,(k,F)∈X){Y:List (Int×BF)}(hY:(X.filter fun p=>decide (p.1∉hv))=Y)(u:FrameMode) :
 CallsD prog 117 #[.pointer (some ⟨base,0,none⟩),.pointer (some ⟨base+4,0,none⟩),.pointer (some ⟨base+3,0,none⟩),.pointer (some ⟨base+1,0,none⟩),.pointer (some ⟨base+2,0,none⟩)] u W fun e u' w'=>u'=u/\e=.returned (.tuple #[])/\RkF K n room w0 mb ws0 C o0 wb base Bj Y nx vl ul wh 0 uh uh ls hv w':=by
 have g1:Zdy (RkB base mb Bj vl ul wh 0 uh uh ls hv):=fun W o W' o' h hc =>
  ⟨hB _ _ _ _ h.b hc,BoxB.keepC (fun q=>q) _ _ _ _ h.b0 hc,BoxB.keepC (fun q=>q) _ _ _ _ h.b1 hc,BoxB.keepC (fun q=>q) _ _ _ _ h.b2 hc,BoxB.keepC (fun q=>q) _ _ _ _ h.b3 hc,BoxB.keepC (fun q=>q) _ _ _ _ h.b4 hc,
   h.l.chg hc,h.h.chg hc,h.ne⟩
 have g0:∃ a c,uh=.slice a hv.length c/\Calls prog 118 #[.pointer (some ⟨mb,0,none⟩),.slice a hv.length c] W fun x w'=>x=.returned (.int .i64 0)/\RkF K n room w0 mb ws0 C o0 wb base Bj Y nx vl ul wh 0 uh uh ls hv w':=by
  obtain⟨o,m,V,q1,q2,q3,q4⟩:=h;obtain⟨a,c,e,hz,g2⟩:=q4.h.ints hl;refine⟨a,c,e,(Zg3 hK q3 hnx hz g2 (Zzz hnd hin)).mono ?_⟩;rintro x w' ⟨r1,o',m',hh⟩;have hs:=hh.sat;rw[Zfs hv X h1,hY] at hs;exact⟨r1,o',m',V,q1.trans (ChgX.of_chg hh.chg NoB) NoB.sub,by rw[hh.waits];exact q2,hs,g1 _ _ _ _ q4 (ChgX.of_chg hh.chg NoB)⟩
 obtain⟨a,c,e,hd⟩:=g0;have HD:=Hd hd;obtain⟨_,_,_,_,_,_,hb⟩:=h;have c0:=hb.b0.cell;have c3:=hb.b3.cell;have c4:=hb.b4.cell;rw[e] at c4;obtain⟨P,hP⟩:∃ P:World->Prop,P=fun w'=>RkF K n room w0 mb ws0 C o0 wb base Bj Y nx vl ul wh 0 uh uh ls hv w':=⟨_,rfl⟩
 have HC:Hid (∀ w',P w'->w'.cell? ⟨base+3,0,none⟩=some (.int .i64 0)):=Hd (by rw[hP];rintro w' ⟨_,_,_,_,_,_,hb⟩;exact hb.b3.cell);have HP:Hid (∀ w',RkF K n room w0 mb ws0 C o0 wb base Bj Y nx vl ul wh 0 uh uh ls hv w'->P w'):=Hd (by rw[hP];exact fun _ h=>h);have HQ:Hid (∀ w',P w'->RkF K n room w0 mb ws0 C o0 wb base Bj Y nx vl ul wh 0 uh uh ls hv w'):=Hd (by rw[hP];exact fun _ h=>h);clear hb hd e hP hnd h1 hin hY hl g1
 go_enter_d func117,ntmps117
 go_wp2_with fail;refine HD.out.mono ?_;rintro x w' ⟨rfl,hr⟩;have hp:=HP.out w' hr;have c3':=HC.out w' hp;have HR:=Hd hp;clear hr hp HD HC HP c0 c3 c4;go_wp2_with fail;refine bodyPost_end (results_none rfl _ _ _) rfl ?_;exact⟨rfl,HQ.out _ HR.out⟩
end
structure RkI (K:Law)(n room:Nat)(w0:World)(mb:Nat)(ws0:List Ev)(C:Nat->Prop)(o0:Own)(wb:World)(base:Nat)(B:Nat->World->Own->Prop)(Φ:BF->BF)(c:Int)(j0:Nat)(Q:BF)(fs:List (Int×BF))(nx:Int)(i:Nat)(ka kr:Int)(X rs:List (Int×BF))(hv:List Int)(nx':Int)(vl vh:Value)(W:World):Prop where
 st:RkF K n room w0 mb ws0 C o0 wb base (B (j0+i)) X nx' vl vl false 0 vh vh (rs.map Prod.fst) hv W
 snd:rs.map Prod.snd=(List.range i).map (Zb9 Φ Q)
 fil:(X.filter fun p=>decide (p.1∉hv))=fs++(rs++[(kr,Zb9 Φ Q i)])
 all:(ka,allF Φ Q i)∈X
 nd:hv.Nodup
 gt:∀ k∈hv,1<k
 inX:∀ k∈hv,∃ F,(k,F)∈X
 pre:∃ Y,X=fs++Y
 len:X.length=fs.length+2+2*i
 rings:Zfl Φ Q i
 lo:nx<=nx'
 hi:nx'<=nx+2+i*(c+2)
 hlen:hv.length=i+1
def Zxn (K:Law)(n room:Nat)(w0:World)(mb:Nat)(ws0:List Ev)(C:Nat->Prop)(o0:Own)(wb:World)(base:Nat)(B:Nat->World->Own->Prop)(Φ:BF->BF)(c:Int)(j0:Nat)(Q:BF)(most:Nat)(fs:List (Int×BF))(nx:Int)(x:Ending)(w':World):Prop :=
 ∃ (k s:Nat) (rs:List (Int×BF)) (nx':Int) (vl:Value) (wh:Bool),x=.returned (.tuple #[vl,.bool wh,.int .i64 0])/\k<=most/\nx<=nx'/\nx'<=nx+490000/\rs.map Prod.snd=(List.range k).map (Zb9 Φ Q) /\
  ((wh=false/\k=most/\Zfl Φ Q k/\s=k)\/(wh=true/\∃ i,k=i+1/\s=k/\Zi6 Φ Q i)) /\
  FxS K n room w0 mb ws0 C o0 wb (fun W o=>B (j0+s) W o/\LawL W o (base+5) vl (rs.map Prod.fst)) (fs++rs) nx' w'
section
variable {K:Law}{n room L:Nat}{w0 w wb W W':World}{mb g base:Nat}{fs X bs r:List (Int×BF)}{nx nx':Int}{o o0:Own}{m:ManD}{V:Nat->BF}{ws0:List Ev}{C D:Nat->Prop}{B:Nat->World->Own->Prop}{Bj:World->Own->Prop}{lop:Array Value}{Φ:BF->BF}{c:Int}{vl ul vh uh:Value}{wh:Bool}{e:Int}{ls hv:List Int}{Q:BF}
theorem RkF.cells (h:RkF K n room w0 mb ws0 C o0 wb base Bj X nx vl ul wh e vh uh ls hv W):(W.cell? ⟨base,0,none⟩=some (.pointer (some ⟨mb,0,none⟩))/\W.cell? ⟨base+1,0,none⟩=some vl/\W.cell? ⟨base+1+1,0,none⟩=some (.bool wh)/\W.cell? ⟨base+1+1+1,0,none⟩=some (.int .i64 e)/\W.cell? ⟨base+1+1+1+1,0,none⟩=some vh) /\
 (W.frozen? ⟨base+1,0,none⟩=false/\W.frozen? ⟨base+1+1,0,none⟩=false/\W.frozen? ⟨base+1+1+1,0,none⟩=false/\W.frozen? ⟨base+1+1+1+1,0,none⟩=false):=by
 obtain⟨_,_,_,_,_,_,hb⟩:=h;exact⟨⟨hb.b0.cell,hb.b1.cell,hb.b2.cell,hb.b3.cell,hb.b4.cell⟩,hb.b1.fr,hb.b2.fr,hb.b3.fr,hb.b4.fr⟩
theorem RkF.ownL (h:RkF K n room w0 mb ws0 C o0 wb base Bj X nx vl ul wh e vh uh ls hv W):OwnC 3 W (base+5) ul (Za0 ls):=by
 obtain⟨_,_,_,_,_,_,hb⟩:=h;exact hb.l.own
theorem RkF.ownH (h:RkF K n room w0 mb ws0 C o0 wb base Bj X nx vl ul wh e vh uh ls hv W):OwnC 3 W (base+5) uh (Za0 hv):=by
 obtain⟨_,_,_,_,_,_,hb⟩:=h;exact hb.h.own
theorem RkF.size (h:RkF K n room w0 mb ws0 C o0 wb base Bj X nx vl ul wh e vh uh ls hv W):base+5<=W.heap.size:=by
 obtain⟨_,_,_,_,_,_,hb⟩:=h;exact hb.b4.lt
theorem RkF.nodup (h:RkF K n room w0 mb ws0 C o0 wb base Bj X nx vl ul wh e vh uh ls hv W):(X.map Prod.fst).Nodup:=by
 obtain⟨_,_,_,_,_,h3,_⟩:=h;exact h3.nodup
theorem FxS.size (h:FxS K n room w0 mb ws0 C o0 wb Bj X nx W):wb.heap.size<=W.heap.size/\w0.heap.size<=W.heap.size:=by
 obtain⟨_,_,_,h1,_,h3,_⟩:=h;exact⟨h1.size,h3.chg.size⟩
theorem RkF.keepB (hB:Zdy Bj):Zdy (RkB base mb Bj vl ul wh e vh uh ls hv):=fun W o W' o' h hc =>
 ⟨hB _ _ _ _ h.b hc,BoxB.keepC (fun q=>q) _ _ _ _ h.b0 hc,BoxB.keepC (fun q=>q) _ _ _ _ h.b1 hc,BoxB.keepC (fun q=>q) _ _ _ _ h.b2 hc,BoxB.keepC (fun q=>q) _ _ _ _ h.b3 hc,BoxB.keepC (fun q=>q) _ _ _ _ h.b4 hc,h.l.chg hc,h.h.chg hc,h.ne⟩
theorem Zrx (h:FxS K n room w0 mb ws0 C o0 wb Bj fs nx W)(hB:Zdy Bj){w4 w5:World}(hw4:w4=(((W.alloc (.cells #[.pointer (some ⟨mb,0,none⟩)] 41)).alloc (.cells #[.slice none 0 0] 23)).alloc (.cells #[.bool false] 4)).alloc (.cells #[.int .i64 0] 25))(hw5:w5=w4.alloc (.cells #[.slice none 0 0] 23)) :
 Below W.heap.size W w4/\w4.cell? ⟨W.heap.size,0,none⟩=some (.pointer (some ⟨mb,0,none⟩))/\RkF K n room w0 mb ws0 C o0 wb W.heap.size Bj fs nx (.slice none 0 0) (.slice none 0 0) false 0 (.slice none 0 0) (.slice none 0 0) [] [] w5:=by
 have g0:w4.heap[W.heap.size]?=some (.cells #[.pointer (some ⟨mb,0,none⟩)] 41 (0,0)):=by
  rw[hw4];exact(Go.heap_alloc_old _ _ (by simp;omega)).trans ((Go.heap_alloc_old _ _ (by simp;omega)).trans ((Go.heap_alloc_old _ _ (by simp)).trans (heap_alloc_new _ _)))
 have g1:w4.heap[W.heap.size+1]?=some (.cells #[.slice none 0 0] 23 (0,0)):=by
  have:=heap_alloc_new (W.alloc (.cells #[.pointer (some ⟨mb,0,none⟩)] 41)) (.cells #[.slice none 0 0] 23);rw[World.size_alloc] at this;rw[hw4];exact(Go.heap_alloc_old _ _ (by simp)).trans ((Go.heap_alloc_old _ _ (by simp)).trans this)
 have g2:w4.heap[W.heap.size+2]?=some (.cells #[.bool false] 4 (0,0)):=by
  have:=heap_alloc_new ((W.alloc (.cells #[.pointer (some ⟨mb,0,none⟩)] 41)).alloc (.cells #[.slice none 0 0] 23)) (.cells #[.bool false] 4);rw[World.size_alloc,World.size_alloc] at this;rw[hw4];exact(Go.heap_alloc_old _ _ (by simp)).trans this
 have g3:w4.heap[W.heap.size+3]?=some (.cells #[.int .i64 0] 25 (0,0)):=by
  have:=heap_alloc_new (((W.alloc (.cells #[.pointer (some ⟨mb,0,none⟩)] 41)).alloc (.cells #[.slice none 0 0] 23)).alloc (.cells #[.bool false] 4)) (.cells #[.int .i64 0] 25);rw[World.size_alloc,World.size_alloc,World.size_alloc] at this;rw[hw4];exact this
 have g7:w4.heap.size=W.heap.size+4:=by rw[hw4];simp
 have g5:Below W.heap.size W w4:=by rw[hw4];exact(((Zaf _ _).alloc (by simp) _).alloc (by simp;omega) _).alloc (by simp;omega) _
 have g6:Below w4.heap.size w4 w5:=by rw[hw5];exact Zaf _ _
 have g4:w5.heap[W.heap.size+4]?=some (.cells #[.slice none 0 0] 23 (0,0)):=by
  rw[<- g7,hw5];exact heap_alloc_new _ _
 have hb:Below W.heap.size W w5:=g5.trans (g6.mono g5.size);obtain⟨o,m,V,h1,h2,h3,h4⟩:=h;have hc:=ChgX.of_below hb o NoB;have hk:∀ k,k<w4.heap.size->w5.heap[k]?=w4.heap[k]?:=fun k hk=>g6.block k hk
 exact⟨g5,cell1 g0,o,m,V,h1.trans hc NoB.sub,h2,h3.below hb,hB _ _ _ _ h4 hc,⟨(hk _ (by omega)).trans g0,h3.lt.none (by omega)⟩,⟨(hk _ (by omega)).trans g1,h3.lt.none (by omega)⟩,⟨(hk _ (by omega)).trans g2,h3.lt.none (by omega)⟩,⟨(hk _ (by omega)).trans g3,h3.lt.none (by omega)⟩,⟨g4,h3.lt.none (by omega)⟩,Zp0 _ _ _,Zp0 _ _ _,fun k hk=>by cases hk⟩
end
open Go.RowKit
theorem Znb (args:Array Value)(w:World):(callFunc 117 args).run prog w=.ok (.enter 117 args) w:=enters_of func117 (by kernel_rfl) rfl args w
section
variable {K:Law}{n room L:Nat}{w0 w wb W W':World}{mb g base:Nat}{fs X bs r:List (Int×BF)}{nx nx':Int}{o o0:Own}{m:ManD}{V:Nat->BF}{ws0:List Ev}{C D:Nat->Prop}{B:Nat->World->Own->Prop}{Bj:World->Own->Prop}{lop:Array Value}{Φ:BF->BF}{c:Int}{vl ul vh uh:Value}{wh:Bool}{e:Int}{ls hv:List Int}{Q:BF}
theorem Zj9 {X:List (Int×BF)}{hv:List Int}{d a:Int}{D A:BF}(hnd:((X++[(d,D),(a,A)]).map Prod.fst).Nodup)(hin:∀ k∈hv,∃ F,(k,F)∈X) :
 ((X++[(d,D),(a,A)]).filter fun p=>decide (p.1∉hv++[a]))=(X.filter fun p=>decide (p.1∉hv))++[(d,D)]:=by
 rw[List.map_append,List.nodup_append] at hnd;obtain⟨_,h2,h3⟩:=hnd;have hX:∀ p∈X,p.1≠a:=fun p hp e=>h3 p.1 (List.mem_map.2 ⟨p,hp,rfl⟩) a (by simp) e
 have hd:d∉hv:=fun hd=>by
  obtain⟨F,hF⟩:=hin d hd;exact h3 d (List.mem_map.2 ⟨_,hF,rfl⟩) d (by simp) rfl
 have g0:d≠a:=by simpa using h2
 rw[List.filter_append];congr 1
 .
  refine List.filter_congr fun p hp=>?_
  have:=hX p hp;simp[this]
 . simp[hd,g0]
theorem Zq7 {Y:List (Int×BF)}{kr:Int}{R:BF}(hnd:((Y++[(kr,R)]).map Prod.fst).Nodup):((Y++[(kr,R)]).filter fun p=>decide (p.1≠kr))=Y:=by
 rw[List.map_append,List.nodup_append] at hnd;rw[List.filter_append,List.filter_eq_self.2]
 . simp
 . intro p hp;have:=hnd.2.2 p.1 (List.mem_map.2 ⟨p,hp,rfl⟩) kr (by simp);simpa using this
theorem FxS.drop1F (hK:Zbu K)(hB:Zdy Bj)(h:FxS K n room w0 mb ws0 C o0 wb Bj X nx W)(hn:nx<549755813888){k:Int}{F:BF}(hk:(k,F)∈X)(h1:1<k){T:World}(hT:T=W.alloc (.cells #[.int .i64 k] 3)) :
 Calls prog 118 #[.pointer (some ⟨mb,0,none⟩),.slice (some ⟨W.heap.size,0,none⟩) 1 1] T fun x w'=>x=.returned (.int .i64 0)/\FxS K n room w0 mb ws0 C o0 wb Bj (X.filter fun p=>decide (p.1≠k)) nx w':=by
 subst hT;obtain⟨o,m,V,q1,q2,q3,q4⟩:=h;have g0:=Zaf W (.cells #[.int .i64 k] 3)
 refine(Zg3 (c:=1) (ks:=[k]) hK (q3.below g0) hn (a:=some ⟨W.heap.size,0,none⟩) (Zgd W [k] (by simp)) (fun x hx=>by cases hx;exact q3.lt.none (Nat.le_refl _)) (fun j hj=>by
  obtain rfl:j=0:=by simpa using hj
  exact⟨F,hk⟩)).mono ?_
 rintro x w' ⟨r1,o',m',hh⟩;have hc:=(ChgX.of_below g0 o NoB).trans (ChgX.of_chg hh.chg NoB) NoB.sub;have hs:=hh.sat;rw[Zfs [k] X (by simpa using h1)] at hs;have e:(X.filter fun p=>decide (p.1∉[k]))=X.filter fun p=>decide (p.1≠k):=List.filter_congr fun p _=>by simp
 rw[e] at hs;exact⟨r1,o',m',V,q1.trans hc NoB.sub,by rw[hh.waits];exact q2,hs,hB _ _ _ _ q4 hc⟩
theorem RkI.two {j0 i:Nat}{ka kr:Int}{rs:List (Int×BF)}(h:RkI K n room w0 mb ws0 C o0 wb base B Φ c j0 Q fs nx i ka kr X rs hv nx' vl vh W)(hb:B2 fs):B2 X:=by
 obtain⟨Y,rfl⟩:=h.pre;exact hb.app Y
theorem RkI.rlen {j0 i:Nat}{ka kr:Int}{rs:List (Int×BF)}(h:RkI K n room w0 mb ws0 C o0 wb base B Φ c j0 Q fs nx i ka kr X rs hv nx' vl vh W):rs.length=i:=by
 have:=congrArg List.length h.snd;simpa using this
theorem RkI.ring {j0 i:Nat}{ka kr:Int}{rs:List (Int×BF)}(h:RkI K n room w0 mb ws0 C o0 wb base B Φ c j0 Q fs nx i ka kr X rs hv nx' vl vh W):(kr,Zb9 Φ Q i)∈X:=by
 have:(kr,Zb9 Φ Q i)∈X.filter fun p=>decide (p.1∉hv):=by rw[h.fil];simp
 exact(List.mem_filter.1 this).1
theorem FxS.gt1 (h:FxS K n room w0 mb ws0 C o0 wb Bj X nx W){Y Z:List (Int×BF)}(hX:X=Y++Z)(hb:B2 Y){p:Int×BF}(hp:p∈Z):1<p.1:=by
 subst hX;obtain⟨_,_,_,_,_,h3,_⟩:=h;exact h3.gt hb p hp
theorem RkI.next {j0 i:Nat}{ka kr a' d nx2:Int}{rs:List (Int×BF)}{vl2 vh2:Value}{w':World}(h:RkI K n room w0 mb ws0 C o0 wb base B Φ c j0 Q fs nx i ka kr X rs hv nx' vl vh W)(hb:B2 fs)
 (hs:RkF K n room w0 mb ws0 C o0 wb base (B (j0+i+1)) (X++[(d,Zb9 Φ Q (i+1)),(a',allF Φ Q (i+1))]) nx2 vl2 vl2 false 0 vh2 vh2 (rs.map Prod.fst++[kr]) (hv++[a']) w') (hne:Zb9 Φ Q (i+1)≠fun _=>false) (h1:nx'<=nx2) (h2:nx2<=nx'+(c+2)) :
 RkI K n room w0 mb ws0 C o0 wb base B Φ c j0 Q fs nx (i+1) a' d (X++[(d,Zb9 Φ Q (i+1)),(a',allF Φ Q (i+1))]) (rs++[(kr,Zb9 Φ Q i)]) (hv++[a']) nx2 vl2 vh2 w':=by
 have g0:=hs.nodup;have g2:=Zj9 g0 h.inX;have g4:=h.two hb;have g3:1<a':=FxS.gt1 hs (Y:=X) (Z:=[(d,Zb9 Φ Q (i+1)),(a',allF Φ Q (i+1))]) rfl g4 (p:=(a',allF Φ Q (i+1))) (by simp);have g1:((i+1:Nat):Int)*(c+2)=i*(c+2)+(c+2):=by rw[Int.natCast_add,Int.add_mul];simp
 have g5:=h.lo;have g6:=h.hi;refine⟨by rw[List.map_append];exact hs,by rw[List.map_append,h.snd,List.range_succ,List.map_append];rfl,by rw[g2,h.fil];simp,by simp,?_,?_,?_,?_,by simp[h.len];omega,h.rings.succ hne,by omega,by rw[g1];omega,by simp[h.hlen]⟩
 . rw[List.nodup_append];refine⟨h.nd,by simp,fun x hx y hy e=>?_⟩;obtain⟨F,hF⟩:=h.inX x hx;rw[List.map_append,List.nodup_append] at g0;simp only[List.mem_singleton] at hy;exact g0.2.2 x (List.mem_map.2 ⟨_,hF,rfl⟩) a' (by simp) (by rw[e,hy])
 .
  intro k hk;rcases List.mem_append.1 hk with hk|hk
  . exact h.gt k hk
  . simp only[List.mem_singleton] at hk;rw[hk];exact g3
 .
  intro k hk;rcases List.mem_append.1 hk with hk|hk
  . obtain⟨F,hF⟩:=h.inX k hk;exact⟨F,List.mem_append_left _ hF⟩
  . simp only[List.mem_singleton] at hk;rw[hk];exact⟨allF Φ Q (i+1),by simp⟩
 . obtain⟨Y,hY⟩:=h.pre;exact⟨Y++[(d,Zb9 Φ Q (i+1)),(a',allF Φ Q (i+1))],by rw[hY];simp⟩
end
open Go.RowKit
section
variable {K:Law}{n room L:Nat}{w0 w wb W W':World}{mb g base:Nat}{fs X bs r:List (Int×BF)}{nx nx':Int}{o o0:Own}{m:ManD}{V:Nat->BF}{ws0:List Ev}{C D:Nat->Prop}{B:Nat->World->Own->Prop}{Bj Bi:World->Own->Prop}{lop:Array Value}{Φ:BF->BF}{c:Int}{vl ul vh uh:Value}{wh:Bool}{e:Int}{ls hv:List Int}{Q:BF}
theorem FxS.sameB (h:FxS K n room w0 mb ws0 C o0 wb Bj X nx W){k l:Int}{F G:BF}{b:Bool}(hk:(k,F)∈X)(hl:(l,G)∈X)(hb:b=true↔F=G):Calls prog 58 #[.pointer (some ⟨mb,0,none⟩),.int .i64 k,.int .i64 l] W fun x w'=>x=.returned (.tuple #[.bool b,.int .i64 0])/\W=w' :=
 (h.same hk hl).mono fun x w' ⟨b',q1,q2,q3⟩=>by
  obtain rfl:b'=b:=Bool.eq_iff_iff.2 (q2.trans hb.symm);exact⟨q1,q3⟩
theorem FunC.callR (hf:FunC K n room w0 mb ws0 L C B bs g lop Φ (fun _=>0) c)(hC:∀ k,C k->k<base)(j:Nat)(hj:j<=1000000){h:Int}{F:BF}(hst:RkF K n room w0 mb ws0 C o0 wb base (B j) X nx vl ul wh e vh uh ls hv W)(hb:B2 X)(hbs:∀ p∈bs,p∈X)(hk:(h,F)∈X)(hn:nx+c<=549755813888)(hl:X.length<=L) :
 Calls prog g (#[.int .i64 h]++lop) W fun x w'=>∃ p nx',x=.returned (.tuple #[.int .i64 p,.int .i64 0])/\nx<=nx'/\nx'<=nx+c/\RkF K n room w0 mb ws0 C o0 wb base (B (j+1)) (X++[(p,Φ F)]) nx' vl ul wh e vh uh ls hv w':=by
 have hT:Zsb C (RkB base mb (fun _ _=>True) vl ul wh e vh uh ls hv):=RkB.keepC hC (fun _ _ _ _ _ _=>trivial);refine(hf.callB hT j hj (hst.withB fun o m V _ hh=>⟨hh.b,trivial,hh.b0,hh.b1,hh.b2,hh.b3,hh.b4,hh.l,hh.h,hh.ne⟩) hb hbs hk hn hl).mono ?_;rintro x w' ⟨p,nx',q1,q2,q3,q4,_⟩;exact⟨p,nx',q1,q2,q3,(q4 rfl).withB fun o m V _ hh=>⟨hh.1,hh.2.b0,hh.2.b1,hh.2.b2,hh.2.b3,hh.2.b4,hh.2.l,hh.2.h,hh.2.ne⟩⟩
theorem Zwf {j0:Nat}(h:RkF K n room w0 mb ws0 C o0 wb base (B j0) (fs++[(nx,Q),(nx+1,Q)]) (nx+2) (.slice none 0 0) (.slice none 0 0) false 0 vh vh [] [nx] W)(hb:B2 fs):RkI K n room w0 mb ws0 C o0 wb base B Φ c j0 Q fs nx 0 nx (nx+1) (fs++[(nx,Q),(nx+1,Q)]) [] [nx] (nx+2) (.slice none 0 0) vh W:=by
 have g0:=h.nodup;rw[List.map_append,List.nodup_append] at g0;refine⟨h,rfl,?_,by simp[allF],by simp,fun k hk=>?_,fun k hk=>?_,⟨_,rfl⟩,by simp,Zfl.zero _ _,by omega,by simp,rfl⟩
 .
  rw[List.filter_append,List.filter_eq_self.2]
  . simp[Zb9];omega
  . intro p hp;have:=g0.2.2 p.1 (List.mem_map.2 ⟨p,hp,rfl⟩) nx (by simp);simpa using this
 . simp only[List.mem_singleton] at hk;subst hk;exact FxS.gt1 h rfl hb (p:=(k,Q)) (by simp)
 . simp only[List.mem_singleton] at hk;subst hk;exact⟨Q,by simp⟩
def Zls (W:World)(b:Nat):Nat:=match W.cell? ⟨b,0,none⟩ with
 | some (.slice _ k _)=>k
 | _=>0
theorem Zkx {b k c:Nat}{a:Option Addr}(h:W.cell? ⟨b,0,none⟩=some (.slice a k c)):Zls W b=k:=by unfold Zls;rw[h]
theorem RkI.row {j0 i:Nat}{ka kr:Int}{rs:List (Int×BF)}(h:RkI K n room w0 mb ws0 C o0 wb base B Φ c j0 Q fs nx i ka kr X rs hv nx' vl vh W):(∃ a c,vl=.slice a i c)/\∃ a c,vh=.slice a (i+1) c:=by
 obtain⟨_,_,_,_,_,_,hb⟩:=h.st;have hl:rs.length=i:=by
  have:=congrArg List.length h.snd;simpa using this
 obtain⟨a,c,e,_⟩:=hb.l.own.slice;obtain⟨a2,c2,e2,_⟩:=hb.h.own.slice;exact⟨⟨a,c,by rw[e];simp[Za0,hl]⟩,a2,c2,by rw[e2];simp[Za0,h.hlen]⟩
theorem Zpc {W:World}{base:Nat}{v x:Value}{ls:List Int}(h:OwnC 3 W base v (Za0 ls++[x])):∃ a c,v=.slice a (ls.length+1) c:=by
 obtain⟨a,c,e,_⟩:=h.slice;exact⟨a,c,by rw[e];simp[Za0]⟩
end
open Go.RowKit
section
variable {K:Law}{n room L:Nat}{w0 w wb W W':World}{mb g base:Nat}{fs X bs r:List (Int×BF)}{nx nx':Int}{o o0:Own}{m:ManD}{V:Nat->BF}{ws0:List Ev}{C D:Nat->Prop}{B:Nat->World->Own->Prop}{lop:Array Value}{Φ:BF->BF}{c:Int}{Q:BF}
theorem Zwb (hK:Zbu K)(hf:FunC K n room w0 mb ws0 L C B bs g lop Φ (fun _=>0) c)(hC:∀ k,C k->k<W.heap.size)(hlow:∀ j,LowB W.heap.size (B j))(j0:Nat)(hj0:j0<=900000)(h:FxS K n room w0 mb ws0 C o0 wb (B j0) fs nx W)(hb:B2 fs)(hbs:∀ p∈bs,p∈fs){q:Int}(hq:(q,Q)∈fs)(hd:∀ i,DepF n (Zb9 Φ Q i)){most:Int}{M:Nat}(hM:min (max most 0) 4096=(M:Int))(hc:c<=100)(hn:nx+500000<549755813888)(hl:fs.length+2*2^n+8<=L)(hr:(L+8)*2^n<=room) :
 Calls prog 43 #[.pointer (some ⟨mb,0,none⟩),.int .i64 q,.func (.func g) #[] lop,.int .i64 most] W (Zxn K n room w0 mb ws0 C o0 wb W.heap.size B Φ c j0 Q M fs nx):=by
 have hW:∀ (fn:Fn) (first cap:Array Value) (w:World),(Instr.makeFunc fn first cap).run prog w=.ok (.func fn first cap) w:=fun _ _ _ _=>rfl
 have hZ:=hf.nat;have gX:M<=4096:=by omega
 obtain⟨w4,gv⟩:∃ w4,w4=(((W.alloc (.cells #[.pointer (some ⟨mb,0,none⟩)] 41)).alloc (.cells #[.slice none 0 0] 23)).alloc (.cells #[.bool false] 4)).alloc (.cells #[.int .i64 0] 25):=⟨_,rfl⟩;obtain⟨w5,gD⟩:∃ w5,w5=w4.alloc (.cells #[.slice none 0 0] 23):=⟨_,rfl⟩;obtain⟨gV,c04,h5⟩:=Zrx h (hf.keep j0) gv gD;have h0:Hid (_=w4):=Hd gv.symm;have gZ:Hid (_=w5):=Hd gD.symm;have HM:Hid (Calls prog 113 #[.pointer (some ⟨mb,0,none⟩),.int .i64 q,.func (.func g) #[] lop] w4 fun x w'=>x=.returned (.int .i64 0)/\w4=w'):=Hd ((h.below (hf.keep j0) gV).ask fun o m V hs=>Zlu (nil:=false) hs (.inr ⟨⟨_,hq⟩,.inr ⟨rfl,rfl⟩⟩));obtain⟨hs1,gS⟩:=h.size;have gR:w4.heap.size=W.heap.size+1+1+1+1:=by rw[gv];simp
 obtain⟨s,hs⟩:∃ s,s=W.heap.size:=⟨_,rfl⟩;have HSZ:=Hd (show wb.heap.size<=s/\w0.heap.size<=s by rw[hs];exact⟨hs1,gS⟩);have g0:Hid (∀ j,LowB s (B j)):=Hd (by rw[hs];exact hlow);have g6:Hid (∀ j,Zdy (B j)):=Hd hf.keep;have gQ:Hid (∀ k,C k->k<s):=Hd (by rw[hs];exact hC);have hQ:=Hd hf;have HK:=Hd hK;have HB2:=Hd hb;have hT:=Hd hbs;have hR:=Hd hd;have k0:=Hd hs;have gk:=Hd gX;have ha:Hid (∀ l,l<=L+8->l*2^n<=room):=Hd fun l hl=>Nat.le_trans (Nat.mul_le_mul_right _ hl) hr
 have hL:=Hd hl;have HQ:=Hd hq;rw[<- hs] at h5;have gn:=Hd (h5.copy hK (RkF.keepB (hf.keep j0)) (by omega) hq);have eg:=hf.enters;have eg2:=Znb;obtain⟨⟨a0,a1,a2,a3,a4⟩,b1,b2,b3,b4⟩:=h5.cells;obtain⟨P,hP⟩:∃ P,P=Zxn K n room w0 mb ws0 C o0 wb W.heap.size B Φ c j0 Q M fs nx:=⟨_,rfl⟩;have HP:Hid (∀ x w',Zxn K n room w0 mb ws0 C o0 wb s B Φ c j0 Q M fs nx x w'->P x w'):=Hd (by rw[hP,hs];exact fun _ _ e=>e);rw[<- hP];clear hP h hf hC hlow hb hbs hq hd hK gV h5 hs1 gS gv gD gX hl hr;rw[<- hs] at c04 gR
 go_enter_defers func43,ntmps43
 go_upto_region 1 with fail;rw[h0.out];rw[<- hs];clear hs;go_wp2_with fail;refine HM.out.mono ?_;rintro x w' ⟨rfl,rfl⟩;go_upto_region 6 with fail;rw[gZ.out];clear hM;go_wp2_with fail;refine gn.out.mono ?_;rintro x w6 ⟨rfl,h6⟩;clear a0 a1 a2 a3 a4 b1 b2 b3 b4 c04 gn HM h0 gZ gR;obtain⟨⟨a0,a1,a2,a3,a4⟩,b1,b2,b3,b4⟩:=RkF.cells h6;go_upto_region 10 with fail;obtain⟨w7,gC⟩:∃ w7,w7=w6.setCell ⟨s+1+1+1,0,none⟩ (.int .i64 0):=⟨_,rfl⟩;have h7:RkF K n room w0 mb ws0 C o0 wb s (B j0) (fs++[(nx,Q)]) (nx+1) (.slice none 0 0) (.slice none 0 0) false 0 (.slice none 0 0) (.slice none 0 0) [] [] w7:=by rw[gC];exact RkF.set3 h6 HSZ.out.1 HSZ.out.2 (g0.out j0) 0
 rw[<- gC];clear a0 a1 a2 a3 a4 b1 b2 b3 b4 h6 gC;obtain⟨⟨a0,a1,a2,a3,a4⟩,b1,b2,b3,b4⟩:=h7.cells;have HA:Hid (∀ v W',OwnC 3 W' (s+5) v (Za0 []++[.int .i64 nx])->W'.os=w7.os->W'.tape=w7.tape->W'.output=w7.output->w7.heap.size<=W'.heap.size->Zch (.slice none 0 0) v w7 W'->RkF K n room w0 mb ws0 C o0 wb s (B j0) (fs++[(nx,Q)]) (nx+1) (.slice none 0 0) (.slice none 0 0) false 0 (.slice none 0 0) v [] [nx] W'):=Hd fun v W' q1 q2 q3 q4 q5 q6=>RkF.appH h7 HSZ.out.1 HSZ.out.2 (g0.out j0) q1 q2 q3 q4 q5 q6
 have HO:=Hd h7.ownH;have HZ:=Hd h7.size;clear h7;go_upto_region 11 with (at_builtin;refine Zb1 Zg1 _ rfl _ _ rfl (s+5) _ (Za0 []) _ rfl rfl rfl rfl rfl (by exact HO.out) (by simp[Za0]) (by exact HZ.out) ?_;intro v8 w8 gl g1 g2 g3 g4 gU;obtain⟨al8,cl8,e8⟩:=Zpc gl;subst e8;clear a0 a1 a2 a3 a4 b1 b2 b3 b4;have h8:=HA.out _ w8 gl g1 g2 g3 g4 gU;clear gl g1 g2 g3 g4 gU;obtain⟨⟨a0,a1,a2,a3,a4⟩,b1,b2,b3,b4⟩:=RkF.cells h8)
 obtain⟨w9,gB⟩:∃ w9,w9=w8.setCell ⟨s+1+1+1+1,0,none⟩ (.slice al8 1 cl8):=⟨_,rfl⟩;have h9:RkF K n room w0 mb ws0 C o0 wb s (B j0) (fs++[(nx,Q)]) (nx+1) (.slice none 0 0) (.slice none 0 0) false 0 (.slice al8 1 cl8) (.slice al8 1 cl8) [] [nx] w9:=by rw[gB];exact RkF.set4 h8 HSZ.out.1 HSZ.out.2 (g0.out j0) _
 rw[<- gB];clear a0 a1 a2 a3 a4 b1 b2 b3 b4 h8 gB HA HO HZ;obtain⟨⟨a0,a1,a2,a3,a4⟩,b1,b2,b3,b4⟩:=h9.cells;have gn:=Hd (h9.copy HK.out (RkF.keepB (g6.out j0)) (by omega) (k:=q) (F:=Q) (by simp[HQ.out]));clear h9;go_wp2_with fail;refine gn.out.mono ?_;rintro x w10 ⟨rfl,gx⟩;rw[List.append_assoc,show nx+1+1=nx+2 by omega] at gx;clear a0 a1 a2 a3 a4 b1 b2 b3 b4 gn;obtain⟨⟨a0,a1,a2,a3,a4⟩,b1,b2,b3,b4⟩:=RkF.cells gx;go_upto_region 12 with fail;obtain⟨w11,gq⟩:∃ w11,w11=w10.setCell ⟨s+1+1+1,0,none⟩ (.int .i64 0):=⟨_,rfl⟩;have gO:RkF K n room w0 mb ws0 C o0 wb s (B j0) (fs++[(nx,Q),(nx+1,Q)]) (nx+2) (.slice none 0 0) (.slice none 0 0) false 0 (.slice al8 1 cl8) (.slice al8 1 cl8) [] [nx] w11:=by rw[gq];exact RkF.set3 gx HSZ.out.1 HSZ.out.2 (g0.out j0) 0
 rw[<- gq];clear a0 a1 a2 a3 a4 b1 b2 b3 b4 gx gq;have hg:=Hd (Zwf (Φ:=Φ) (c:=c) gO HB2.out);obtain⟨⟨a0,a1,a2,a3,a4⟩,b1,b2,b3,b4⟩:=gO.cells;clear gO;go_wp2_with fail;clear a0 a1 a2 a3 a4 b1 b2 b3 b4
 go_loopw [13,14,15,16,17,18] (fun s13 s14 _ _ _ _ wr=>∃ (i:Nat) (ka kr:Int),i<=M/\s13=.int .i64 ka/\s14=.int .i64 kr/\Hid (∃ X rs hv nx' vl vh,RkI K n room w0 mb ws0 C o0 wb s B Φ c j0 Q fs nx i ka kr X rs hv nx' vl vh wr)) (fun _ _ _ _ _ _ wr=>M+1-Zls wr (s+1))
 case atStart=>exact⟨0,nx,nx+1,Nat.zero_le _,rfl,by simp,Hd ⟨_,_,_,_,_,_,hg.out⟩⟩
 case round =>
  clear hg;obtain⟨i,ka,kr,hX,rfl,rfl,HH⟩:=hrel;obtain⟨X,rs,hv,nx1,vl,vh,hI⟩:=HH.out;obtain⟨⟨al,cl,rfl⟩,ah,ch,rfl⟩:=hI.row;have HI:=Hd hI
  have gb:Hid (nx<=nx1/\nx1+200<=nx+490000):=Hd (by
   have h1:=hI.lo;have h2:=hI.hi;have h3:(i:Int)*(c+2)<=4096*102:=Int.mul_le_mul (by have:=gk.out;omega) (by omega) (by omega) (by omega);omega)
  have gF:i<=2^n:=Zwe hR.out hI.rings;have gy:Hid (X.length+6<=L):=Hd (by have:=hI.len;have:=hL.out;omega);have gz:=Hd (hI.two HB2.out);obtain⟨⟨a0,a1,a2,a3,a4⟩,b1,b2,b3,b4⟩:=RkF.cells hI.st;have hN:=Hd (Zkx a1);have g8:=hI.st
  have hO:Hid (1<kr):=Hd (by
   obtain⟨Y,hY⟩:=hI.pre;have hm:=hI.ring;have hk:=hI.fil;have hB:=g8.nodup;have hD:(kr,Zb9 Φ Q i)∈Y:=by
    rw[hY] at hm;rcases List.mem_append.1 hm with h|h
    .
     exfalso;have h1:(X.filter fun p=>decide (p.1∉hv)).map Prod.fst=(fs++(rs++[(kr,Zb9 Φ Q i)])).map Prod.fst:=by rw[hk]
     have h2:((fs++(rs++[(kr,Zb9 Φ Q i)])).map Prod.fst).Nodup:=by
      rw[<- h1];exact hB.sublist (List.filter_sublist.map _)
     rw[List.map_append,List.nodup_append] at h2;exact h2.2.2 kr (List.mem_map.2 ⟨_,h,rfl⟩) kr (by simp) rfl
    . exact h
   exact FxS.gt1 g8 hY HB2.out hD)
  by_cases hz:i=M
  .
   subst hz;have HD:=Hd (FxS.drop1F HK.out (RkF.keepB (g6.out (j0+i))) g8 (by have:=gb.out;omega) hI.ring hO.out rfl)
   have hJ:=Hd (show ((fs++(rs++[(kr,Zb9 Φ Q i)])).map Prod.fst).Nodup by
    rw[<- hI.fil];exact g8.nodup.sublist (List.filter_sublist.map _))
   clear hI g8 gF HH gy;go_wp2_with fail;refine HD.out.mono ?_;rintro x w12 ⟨rfl,gh⟩;clear a0 a1 a2 a3 a4 b1 b2 b3 b4;obtain⟨⟨a0,a1,a2,a3,a4⟩,b1,b2,b3,b4⟩:=RkF.cells gh
   have HF:Hid (((X.filter fun p=>decide (p.1≠kr)).filter fun p=>decide (p.1∉hv))=fs++rs):=Hd (by
    rw[List.filter_filter,show (fun p:Int×BF=>decide (p.1∉hv)&&decide (p.1≠kr))=fun p=>decide (p.1≠kr)&&decide (p.1∉hv) from funext fun p=>Bool.and_comm _ _,<- List.filter_filter,HI.out.fil,<- List.append_assoc];refine Zq7 ?_;rw[List.append_assoc];exact hJ.out)
   have gP:=Hd gh;clear gh HD;go_wp2_with fail;obtain⟨w13,g7⟩:∃ w,w=((w12.setCell ⟨s+1,0,none⟩ (.slice al i cl)).setCell ⟨s+1+1,0,none⟩ (.bool false)).setCell ⟨s+1+1+1,0,none⟩ (.int .i64 0):=⟨_,rfl⟩;have gj:=RkF.set3 (RkF.set2 (RkF.set1 gP.out HSZ.out.1 HSZ.out.2 (g0.out (j0+i)) (.slice al i cl)) HSZ.out.1 HSZ.out.2 (g0.out (j0+i)) false) HSZ.out.1 HSZ.out.2 (g0.out (j0+i)) 0;have gN:RkF K n room w0 mb ws0 C o0 wb s (B (j0+i)) (X.filter fun p=>decide (p.1≠kr)) nx1 (.slice al i cl) (.slice al i cl) false 0 (.slice ah (i+1) ch) (.slice ah (i+1) ch) (rs.map Prod.fst) hv w13:=by rw[g7];exact gj
   rw[<- g7];clear gj g7 gP;refine leaves_cons (f:=117) (args:=#[.pointer (some ⟨s,0,none⟩),.pointer (some ⟨s+4,0,none⟩),.pointer (some ⟨s+3,0,none⟩),.pointer (some ⟨s+1,0,none⟩),.pointer (some ⟨s+2,0,none⟩)]) (by simp) (by simp[go_sem]) ?_
   refine(Zud HK.out gQ.out (g6.out (j0+i)) gN (by have:=gb.out;omega) (by rw[HI.out.hlen];have:=gk.out;omega) HI.out.nd HI.out.gt (fun k hk=>by
    obtain⟨F,hF⟩:=HI.out.inX k hk;refine⟨F,List.mem_filter.2 ⟨hF,?_⟩⟩;simp only[decide_eq_true_eq];intro e;subst e;have h1:(k,Zb9 Φ Q i)∈X.filter fun p=>decide (p.1∉hv):=by rw[HI.out.fil];simp
    have h2:=(List.mem_filter.1 h1).2;simp[hk] at h2) HF.out .returning).mono ?_
   rintro e u' w14 ⟨rfl,rfl,gg⟩;obtain⟨⟨q0,q1,q2,q3,q4⟩,_⟩:=RkF.cells gg;have gs:=Hd (HP.out (.returned (.tuple #[.slice al i cl,.bool false,.int .i64 0])) w14 ⟨i,i,rs,nx1,_,_,rfl,Nat.le_refl _,gb.out.1,by have:=gb.out;omega,HI.out.snd,.inl ⟨rfl,rfl,HI.out.rings,rfl⟩,gg.withB fun o m V _ hh=>⟨hh.b,hh.l⟩⟩);clear gg gN a0 a1 a2 a3 a4 b1 b2 b3 b4;simp[Leaves,settle,results,Tryz.results43,go_sem,q1,q2,q3];exact gs.out
  .
   have gA:Hid (i<M):=Hd (by omega);have hU:((i:Nat):Int)≠(M:Int):=by omega
   have k3:=Hd gF;have HA:Hid (∀ v W',OwnC 3 W' (s+5) v (Za0 (rs.map Prod.fst)++[.int .i64 kr])->W'.os=wr.os->W'.tape=wr.tape->W'.output=wr.output->wr.heap.size<=W'.heap.size->Zch (.slice al i cl) v wr W'->RkF K n room w0 mb ws0 C o0 wb s (B (j0+i)) X nx1 (.slice al i cl) v false 0 (.slice ah (i+1) ch) (.slice ah (i+1) ch) (rs.map Prod.fst++[kr]) hv W'):=Hd fun v W' q1 q2 q3 q4 q5 q6=>RkF.appL g8 HSZ.out.1 HSZ.out.2 (g0.out (j0+i)) q1 q2 q3 q4 q5 q6
   have HO:=Hd g8.ownL;have HZ:=Hd g8.size;have gT:(rs.map Prod.fst).length=i:=by rw[List.length_map];exact hI.rlen
   have hE:=Hd gT;have gm:Hid ((Za0 (rs.map Prod.fst)).length<1099511627776):=Hd (by have:=gk.out;simp[Za0,hI.rlen];omega);have hS:Hid (∀ p∈bs,p∈X):=Hd fun p hp=>by
    obtain⟨Y,hY⟩:=hI.pre;rw[hY];exact List.mem_append_left _ (hT.out p hp)
   have gu:=Hd hI.all;clear hI g8 gF HH gT;go_upto_region 18 with (at_builtin;refine Zb1 Zg1 _ rfl _ _ rfl (s+5) _ (Za0 (rs.map Prod.fst)) _ rfl rfl rfl rfl rfl (by exact HO.out) (by exact gm.out) (by exact HZ.out) ?_;intro v12 w12 gd g1 g2 g3 g4 gI;obtain⟨al2,cl2,e12⟩:=Zpc gd;rw[hE.out] at e12;subst e12;clear a0 a1 a2 a3 a4 b1 b2 b3 b4;have gh:=HA.out _ w12 gd g1 g2 g3 g4 gI;clear gd g1 g2 g3 g4 gI;obtain⟨⟨a0,a1,a2,a3,a4⟩,b1,b2,b3,b4⟩:=RkF.cells gh)
   obtain⟨w13,g7⟩:∃ w,w=w12.setCell ⟨s+1,0,none⟩ (.slice al2 (i+1) cl2):=⟨_,rfl⟩;have gj:RkF K n room w0 mb ws0 C o0 wb s (B (j0+i)) X nx1 (.slice al2 (i+1) cl2) (.slice al2 (i+1) cl2) false 0 (.slice ah (i+1) ch) (.slice ah (i+1) ch) (rs.map Prod.fst++[kr]) hv w13:=by rw[g7];exact RkF.set1 gh HSZ.out.1 HSZ.out.2 (g0.out (j0+i)) _
   rw[<- g7];clear a0 a1 a2 a3 a4 b1 b2 b3 b4;have HC:=Hd (hQ.out.callR gQ.out (j0+i) (by have:=gk.out;omega) gj gz.out hS.out gu.out (by have:=gb.out;omega) (by have:=gy.out;omega));obtain⟨⟨a0,a1,a2,a3,a4⟩,b1,b2,b3,b4⟩:=gj.cells;clear gh gj g7 HA HO HZ gm;go_wp2_with fail;refine HC.out.mono ?_;rintro x w14 ⟨p,nx2,rfl,gG,gJ,gg⟩;clear a0 a1 a2 a3 a4 b1 b2 b3 b4;obtain⟨⟨a0,a1,a2,a3,a4⟩,b1,b2,b3,b4⟩:=RkF.cells gg;have g5:Hid (nx1<=nx2/\nx2<=nx1+c/\nx2+90<549755813888):=Hd ⟨gG,gJ,by have:=gb.out;omega⟩;have ho:=Hd (FxS.diff2 HK.out (RkF.keepB (g6.out (j0+i+1))) gg (k1:=p) (k2:=ka) (F1:=Φ (allF Φ Q i)) (F2:=allF Φ Q i) (by simp) (List.mem_append_left _ gu.out) (by have:=g5.out;omega) (ha.out _ (by have:=gy.out;simp;omega)));clear gg HC gG gJ;go_wp2_with fail;refine ho.out.mono ?_;rintro x w15 ⟨rfl,gw⟩;clear a0 a1 a2 a3 a4 b1 b2 b3 b4;obtain⟨⟨a0,a1,a2,a3,a4⟩,b1,b2,b3,b4⟩:=RkF.cells gw;rw[List.append_assoc] at gw;have HD:=Hd (FxS.drop1 HK.out (RkF.keepB (g6.out (j0+i+1))) gz.out gw (by have:=g5.out;omega) rfl);clear gw ho;go_wp2_with fail;refine HD.out.mono ?_;rintro x w16 ⟨rfl,gM⟩;clear a0 a1 a2 a3 a4 b1 b2 b3 b4;obtain⟨⟨a0,a1,a2,a3,a4⟩,b1,b2,b3,b4⟩:=RkF.cells gM;have gr:RkF K n room w0 mb ws0 C o0 wb s (B (j0+i+1)) (X++[(nx2,Zb9 Φ Q (i+1))]) (nx2+1) (.slice al2 (i+1) cl2) (.slice al2 (i+1) cl2) false 0 (.slice ah (i+1) ch) (.slice ah (i+1) ch) (rs.map Prod.fst++[kr]) hv w16:=gM;obtain⟨b,gK⟩:=Zu7 (Zb9 Φ Q (i+1)=fun _=>false);have hu:=Hd gK;have h4:Hid (∀ q,Calls prog 58 #[.pointer (some ⟨mb,0,none⟩),.int .i64 nx2,.int .i64 0] (w16.drewN q) fun x w'=>x=.returned (.tuple #[.bool b,.int .i64 0])/\w16.drewN q=w'):=Hd fun q=>(gr.below (RkF.keepB (g6.out (j0+i+1))) (Zah w16 q)).sameB (by simp) (List.mem_append_left _ gz.out.zero) gK
   have ht:Hid (∀ q,Calls prog 121 #[.pointer (some ⟨mb,0,none⟩),.bool false] (w16.drewN q) fun x w'=>x=.returned (.int .i64 0)/\w16.drewN q=w'):=Hd fun q=>Zen mb false _
   have hy:=Hd gr;clear gM gr gK HD;go_upto_region 25 with fail
   go_quiet ((first|(with_reducible exact Zbt (h4.out _))|(with_reducible exact Zbt (ht.out _))))
   have g9:Hid (RkF K n room w0 mb ws0 C o0 wb s (B (j0+i+1)) (X++[(nx2,Zb9 Φ Q (i+1))]) (nx2+1) (.slice al2 (i+1) cl2) (.slice al2 (i+1) cl2) false 0 (.slice ah (i+1) ch) (.slice ah (i+1) ch) (rs.map Prod.fst++[kr]) hv (w16.drewN nq)):=Hd (hy.out.below (RkF.keepB (g6.out (j0+i+1))) (Zah w16 nq));obtain⟨w17,gE⟩:∃ w,w=w16.drewN nq:=⟨_,rfl⟩;rw[<- gE] at g9 ⊢;clear a0 a1 a2 a3 a4 b1 b2 b3 b4;clear gE h4 ht hy;have gY:=g9.out;obtain⟨⟨a0,a1,a2,a3,a4⟩,b1,b2,b3,b4⟩:=gY.cells;clear gY;cases b with
   | true =>
     have HD:=Hd (FxS.drop1 HK.out (RkF.keepB (g6.out (j0+i+1))) (r:=[]) gz.out g9.out (by have:=g5.out;omega) rfl);clear g9;go_wp2_with fail;refine HD.out.mono ?_;rintro x w18 ⟨rfl,ga⟩;rw[List.append_nil] at ga;clear a0 a1 a2 a3 a4 b1 b2 b3 b4;obtain⟨⟨a0,a1,a2,a3,a4⟩,b1,b2,b3,b4⟩:=RkF.cells ga;have hw:=Hd ga;clear ga HD;go_wp2_with fail;obtain⟨w19,gp⟩:∃ w,w=((w18.setCell ⟨s+1,0,none⟩ (.slice al2 (i+1) cl2)).setCell ⟨s+1+1,0,none⟩ (.bool true)).setCell ⟨s+1+1+1,0,none⟩ (.int .i64 0):=⟨_,rfl⟩;have gi:=RkF.set3 (RkF.set2 (RkF.set1 hw.out HSZ.out.1 HSZ.out.2 (g0.out (j0+i+1)) (.slice al2 (i+1) cl2)) HSZ.out.1 HSZ.out.2 (g0.out (j0+i+1)) true) HSZ.out.1 HSZ.out.2 (g0.out (j0+i+1)) 0;have gL:RkF K n room w0 mb ws0 C o0 wb s (B (j0+i+1)) X (nx2+1) (.slice al2 (i+1) cl2) (.slice al2 (i+1) cl2) true 0 (.slice ah (i+1) ch) (.slice ah (i+1) ch) (rs.map Prod.fst++[kr]) hv w19:=by rw[gp];exact gi
     rw[<- gp];clear gi gp hw;refine leaves_cons (f:=117) (args:=#[.pointer (some ⟨s,0,none⟩),.pointer (some ⟨s+4,0,none⟩),.pointer (some ⟨s+3,0,none⟩),.pointer (some ⟨s+1,0,none⟩),.pointer (some ⟨s+2,0,none⟩)]) (by simp) (by simp[go_sem]) ?_;refine(Zud HK.out gQ.out (g6.out (j0+i+1)) gL (by have:=g5.out;omega) (by rw[HI.out.hlen];have:=gk.out;omega) HI.out.nd HI.out.gt HI.out.inX HI.out.fil .returning).mono ?_;rintro e u' w20 ⟨rfl,rfl,ge⟩;obtain⟨⟨q0,q1,q2,q3,q4⟩,_⟩:=RkF.cells ge;have gs:=Hd (HP.out (.returned (.tuple #[.slice al2 (i+1) cl2,.bool true,.int .i64 0])) w20 ⟨i+1,i+1,rs++[(kr,Zb9 Φ Q i)],nx2+1,_,_,rfl,gA.out,by have:=gb.out;have:=g5.out;omega,by have:=gb.out;have:=g5.out;omega,by rw[List.map_append,HI.out.snd,List.range_succ,List.map_append];rfl,.inr ⟨rfl,i,rfl,rfl,HI.out.rings,hu.out.1 (by simp)⟩,ge.withB fun o m V _ hh=>⟨hh.b,by rw[List.map_append];exact hh.l⟩⟩);clear ge gL a0 a1 a2 a3 a4 b1 b2 b3 b4;simp[Leaves,settle,results,Tryz.results43,go_sem,q1,q2,q3];exact gs.out
   | false =>
     have hH:Hid (Zb9 Φ Q (i+1)≠fun _=>false):=Hd fun e=>by have:=hu.out.2 e;cases this
     have he:=Hd (FxS.or2 HK.out (RkF.keepB (g6.out (j0+i+1))) g9.out (k1:=ka) (k2:=nx2) (F1:=allF Φ Q i) (F2:=Zb9 Φ Q (i+1)) (List.mem_append_left _ gu.out) (by simp) (by have:=g5.out;omega) (ha.out _ (by have:=gy.out;simp;omega)) rfl);clear g9;go_wp2_with fail;refine he.out.mono ?_;rintro x w18 ⟨rfl,ga⟩;rw[List.append_assoc] at ga;have gf:RkF K n room w0 mb ws0 C o0 wb s (B (j0+i+1)) (X++[(nx2,Zb9 Φ Q (i+1)),(nx2+1,allF Φ Q (i+1))]) (nx2+1+1) (.slice al2 (i+1) cl2) (.slice al2 (i+1) cl2) false 0 (.slice ah (i+1) ch) (.slice ah (i+1) ch) (rs.map Prod.fst++[kr]) hv w18:=ga;clear a0 a1 a2 a3 a4 b1 b2 b3 b4;obtain⟨⟨a0,a1,a2,a3,a4⟩,b1,b2,b3,b4⟩:=gf.cells;have HA:Hid (∀ v W',OwnC 3 W' (s+5) v (Za0 hv++[.int .i64 (nx2+1)])->W'.os=w18.os->W'.tape=w18.tape->W'.output=w18.output->w18.heap.size<=W'.heap.size->Zch (.slice ah (i+1) ch) v w18 W'->RkF K n room w0 mb ws0 C o0 wb s (B (j0+i+1)) (X++[(nx2,Zb9 Φ Q (i+1)),(nx2+1,allF Φ Q (i+1))]) (nx2+1+1) (.slice al2 (i+1) cl2) (.slice al2 (i+1) cl2) false 0 (.slice ah (i+1) ch) v (rs.map Prod.fst++[kr]) (hv++[nx2+1]) W'):=Hd fun v W' q1 q2 q3 q4 q5 q6=>RkF.appH gf HSZ.out.1 HSZ.out.2 (g0.out (j0+i+1)) q1 q2 q3 q4 q5 q6
     have HO:=Hd gf.ownH;have HZ:=Hd gf.size;have gm:Hid ((Za0 hv).length<1099511627776):=Hd (by have:=gk.out;have:=HI.out.hlen;have:=gA.out;simp[Za0];omega);have hj:=Hd HI.out.hlen;clear ga gf he;go_upto_region 34 with (at_builtin;refine Zb1 Zg1 _ rfl _ _ rfl (s+5) _ (Za0 hv) _ rfl rfl rfl rfl rfl (by exact HO.out) (by exact gm.out) (by exact HZ.out) ?_;intro v19 w19 gc g1 g2 g3 g4 gH;obtain⟨ah2,ch2,e19⟩:=Zpc gc;rw[hj.out] at e19;subst e19;clear a0 a1 a2 a3 a4 b1 b2 b3 b4;have gi:=HA.out _ w19 gc g1 g2 g3 g4 gH;clear gc g1 g2 g3 g4 gH;obtain⟨⟨a0,a1,a2,a3,a4⟩,b1,b2,b3,b4⟩:=RkF.cells gi)
     obtain⟨w20,go⟩:∃ w,w=w19.setCell ⟨s+1+1+1+1,0,none⟩ (.slice ah2 (i+1+1) ch2):=⟨_,rfl⟩;have ge:RkF K n room w0 mb ws0 C o0 wb s (B (j0+i+1)) (X++[(nx2,Zb9 Φ Q (i+1)),(nx2+1,allF Φ Q (i+1))]) (nx2+1+1) (.slice al2 (i+1) cl2) (.slice al2 (i+1) cl2) false 0 (.slice ah2 (i+1+1) ch2) (.slice ah2 (i+1+1) ch2) (rs.map Prod.fst++[kr]) (hv++[nx2+1]) w20:=by rw[go];exact RkF.set4 gi HSZ.out.1 HSZ.out.2 (g0.out (j0+i+1)) _
     rw[<- go];clear a0 a1 a2 a3 a4 b1 b2 b3 b4;have hG:=Hd (HI.out.next HB2.out ge hH.out (by have:=g5.out;omega) (by have:=g5.out;omega));have hA:Hid (Zls w20 (s+1)=i+1):=Hd (Zkx (RkF.cells ge).1.2.1);clear gi ge go HA HO HZ gm hj HI;go_wp2_with fail;go_roundw
     case rel=>exact⟨i+1,nx2+1,nx2,gA.out,rfl,rfl,Hd ⟨_,_,_,_,_,_,hG.out⟩⟩
     case measure =>
      have h1:=hN.out;have h2:=hA.out;have h3:=gA.out;rw[h1,h2];omega
end
open Go.RowKit
open Go.RowKit
open Go.RowKit
open Go.RowKit
open Go.RowKit
open Go.RowKit
open Go.RowKit
open Go.RowKit
open Go.RowKit
open Go.RowKit
open Go.RowKit
open Go.RowKit
section
variable {K:Law}{n room L:Nat}{w0 w wb W:World}{mb:Nat}{fs:List (Int×BF)}{nx:Int}{o0:Own}{ws0:List Ev}{C:Nat->Prop}{B:World->Own->Prop}{kind v kf kg:Int}{P Q:BF}
theorem FxS.ite (hK:Zbu K)(hB:Zdy B)(h:FxS K n room w0 mb ws0 C o0 wb B fs nx W){k1 k2 k3:Int}{F1 F2 F3:BF}(h1:(k1,F1)∈fs)(h2:(k2,F2)∈fs)(h3:(k3,F3)∈fs)(hn:nx<=549755813888)(hr:(fs.length+1)*2^n<=room) :
 Calls prog 47 #[.pointer (some ⟨mb,0,none⟩),.int .i64 k1,.int .i64 k2,.int .i64 k3] W fun x w'=>x=.returned (.tuple #[.int .i64 nx,.int .i64 0])/\FxS K n room w0 mb ws0 C o0 wb B (fs++[(nx,Zc6 F1 F2 F3)]) (nx+1) w' :=
 h.new hB fun o m V hw hs=>(Zzj hK hs hw hn hr h1 h2 h3).mono fun x w' ⟨q1,o',m',V',q2,q3,q4⟩=>⟨q1,o',m',V',q2,q3,q4⟩
end
open Go.RowKit
theorem Zlm (args:Array Value)(w:World):(callFunc 110 args).run prog w=.ok (.enter 110 args) w:=enters_of func110 (by kernel_rfl) rfl args w
def upF (F:BF):BF:=Zc6 F (fun _=>true) (varF 0)
theorem up1:upF (fun _=>false)=varF 0:=rfl
theorem up2:upF (varF 0)=varF 0:=by
 funext ρ
 show iteB (ρ 0) true (ρ 0)=ρ 0
 cases ρ 0<;>rfl
theorem Zzv:varF 0≠fun _=>false:=fun e=>by have:=congrFun e (fun _=>true);cases this
theorem Zxh:EndF upF (fun _=>false) 1:=by
 refine⟨fun i hi=>?_,?_⟩
 .
  obtain rfl:i=0:=by omega
  show upF (fun _=>false)≠fun _=>false
  rw[up1];exact Zzv
 .
  show upF (upF fun _=>false)=upF fun _=>false
  rw[up1,up2]
theorem Zy3:allF upF (fun _=>false) 1=varF 0:=by
 funext ρ
 show iteB false true (iteB (upF (fun _=>false) ρ) (!false) false)=varF 0 ρ
 rw[up1];cases varF 0 ρ<;>rfl
theorem Zqo:Zi6 upF (fun _=>false) 1:=by
 refine⟨fun i hi=>?_,?_⟩
 .
  obtain rfl:i=0:=by omega
  intro e;have:=congrFun e (fun _=>true);cases this
 .
  show Zm4 (upF (allF upF (fun _=>false) 1)) (allF upF (fun _=>false) 1)=fun _=>false
  rw[Zy3,up2];funext ρ
  show iteB (varF 0 ρ) (!varF 0 ρ) false=false
  cases varF 0 ρ<;>rfl
theorem Zy2 {F:BF}(h:DepF 1 F):DepF 1 (upF F):=Zjf h (Zf9 1 true) fun ρ ρ' hr=>hr 0 (by omega)
def UpB (bm ba mb:Nat):World->Own->Prop:=fun W o=>BoxA bm 0 (.pointer (some ⟨mb,0,none⟩)) W o/\BoxA ba 0 (.int .i64 2) W o
theorem UpB.keepB {bm ba mb:Nat}:Zdy (UpB bm ba mb):=BoxA.keep.and BoxA.keep
theorem up_f {K:Law}(hK:Zbu K){n room L:Nat}{w0:World}{mb bm ba:Nat}{ws0:List Ev}{C:Nat->Prop}(hr:(L+1)*2^n<=room) :
 FunC K n room w0 mb ws0 L C (fun _=>UpB bm ba mb) [(2,varF 0)] 110 #[.pointer (some ⟨bm,0,none⟩),.pointer (some ⟨ba,0,none⟩)] upF (fun _=>0) 1:=by
 refine⟨Zlm,fun _=>UpB.keepB,by omega,fun j _ o0 wb W fs nx h F g1 hb g2 hk hn hl=>?_⟩;have g3:=Hd (g1.ite hK UpB.keepB (k1:=h) (k2:=1) (k3:=2) (F1:=F) (F2:=fun _=>true) (F3:=varF 0) hk hb.one (g2 _ (by simp)) (by omega) (Nat.le_trans (Nat.mul_le_mul_right _ (by omega)) hr));obtain⟨_,_,_,_,_,_,⟨c1,_⟩,⟨c2,_⟩⟩:=g1;obtain⟨PP,g0⟩:∃ PP:Ending->World->Prop,PP=fun e w'=>∃ p nx',e=.returned (.tuple #[.int .i64 p,.int .i64 0])/\nx<=nx'/\nx'<=nx+1 /\
  ((0:Int)=0->FxS K n room w0 mb ws0 C o0 wb (UpB bm ba mb) (fs++[(p,upF F)]) nx' w')/\((0:Int)≠0->FxS K n room w0 mb ws0 C o0 wb (UpB bm ba mb) fs nx' w'):=⟨_,rfl⟩
 have g4:=Hd g0
 show Calls _ _ _ _ _
 rw[<- g0];clear g0 hb g2 hk hn hl hr hK
 show Calls _ _ #[_,_,_] _ _
 go_enter func110,ntmps110
 go_wp2_with fail;refine g3.out.mono ?_;rintro x w1 ⟨rfl,h1⟩;have HF:Hid (PP (.returned (.tuple #[.int .i64 nx,.int .i64 0])) w1):=Hd (by rw[g4.out];exact⟨nx,nx+1,rfl,by omega,by omega,fun _=>h1,fun e=>(e rfl).elim⟩);clear h1 g3 c1 c2;go_wp2_with fail;exact HF.out
abbrev S45 (K:Law)(w:World)(mb:Nat)(B:World->Own->Prop)(fs:List (Int×BF))(nx:Int)(W:World):Prop:=FxS K 1 200 w mb [] NoB (fun _=>none) w B fs nx W
theorem Zeb {K:Law}(hK:Zbu K)(w:World):Calls prog 37 #[] w fun x w'=>x=.returned (.bool true)/\Below w.heap.size w w':=by
 have gr:∀ (fn:Fn) (first cap:Array Value) (w:World),(Instr.makeFunc fn first cap).run prog w=.ok (.func fn first cap) w:=fun _ _ _ _=>rfl
 have ga:=Hd (Zp5 (K:=K) 1 200 w (by omega) (by omega) (by omega));have HK:=Hd hK;have gf:Hid (∀ {B:World->Own->Prop} {mb:Nat},Zdy B->∀ W,S45 K w mb B two 2 W->Calls prog 109 #[.pointer (some ⟨mb,0,none⟩),.int .i64 0] W fun x w'=>x=.returned (.tuple #[.int .i64 2,.int .i64 0])/\S45 K w mb B (two++[(2,varF 0)]) 3 w'):=Hd fun hB W g=>g.new hB fun o m V hw hs=>(Zzu hK hs hw (by omega) (by decide) (v:=0) (by omega)).mono fun x w' ⟨q1,o',m',V',q2,q3,q4⟩=>⟨q1,o',m',V',q2,q3,q4⟩
 clear hK
 go_enter func37,ntmps37
 go_wp2_with fail;refine ga.out.mono ?_;rintro x w1 ⟨mb,rfl,o,m,V,g3,gb,_,gm⟩;have h1:S45 K w mb (fun _ _=>True) two 2 w1:=⟨o,m,V,g3.chg,by rw[gb];exact List.suffix_refl _,g3,trivial⟩;have h2:=Zpq (fun _ _ _ _ _ _=>trivial) h1 (vs:=#[.pointer (some ⟨mb,0,none⟩)]) (t:=41) (k:=0) (v:=.pointer (some ⟨mb,0,none⟩)) rfl;obtain⟨w2,g2⟩:∃ w2,w2=w1.alloc (.cells #[.pointer (some ⟨mb,0,none⟩)] 41):=⟨_,rfl⟩;have go:Hid (_=w2):=Hd g2.symm;rw[<- g2] at h2;have g8:S45 K w mb (BoxA w1.heap.size 0 (.pointer (some ⟨mb,0,none⟩))) two 2 w2:=h2.withB fun o m V _ hh=>hh.2
 have c1:w2.cell? ⟨w1.heap.size,0,none⟩=some (.pointer (some ⟨mb,0,none⟩)):=by obtain⟨_,_,_,_,_,_,hb⟩:=g8;exact hb.1
 have HV:=Hd (gf.out BoxA.keep w2 g8);clear h1 h2 g8 g3 gb gm g2 ga gf;go_upto_region 2 with fail;rw[go.out];go_wp2_with fail;refine HV.out.mono ?_;rintro x w3 ⟨rfl,h3⟩;have h4:=Zpq BoxA.keep h3 (vs:=#[.int .i64 2]) (t:=3) (k:=0) (v:=.int .i64 2) rfl;obtain⟨w4,g1⟩:∃ w4,w4=w3.alloc (.cells #[.int .i64 2] 3):=⟨_,rfl⟩;have gn:Hid (_=w4):=Hd g1.symm;rw[<- g1] at h4;have g7:S45 K w mb (UpB w1.heap.size w3.heap.size mb) (two++[(2,varF 0)]) 3 w4:=h4;have g9:FunC K 1 200 w mb [] 60 NoB (fun _=>UpB w1.heap.size w3.heap.size mb) [(2,varF 0)] 110 #[.pointer (some ⟨w1.heap.size,0,none⟩),.pointer (some ⟨w3.heap.size,0,none⟩)] upF (fun _=>0) 1:=up_f HK.out (by decide);have gi:=Hd (Znr HK.out g9 0 (by omega) g7 (Zqn.app _) (by simp) (by omega) (by simp[two]));have gj:Hid (∀ {fs nx W},S45 K w mb (UpB w1.heap.size w3.heap.size mb) fs nx W->W.cell? ⟨w1.heap.size,0,none⟩=some (.pointer (some ⟨mb,0,none⟩))/\W.cell? ⟨w3.heap.size,0,none⟩=some (.int .i64 2)):=Hd fun⟨_,_,_,_,_,_,q1,q2⟩=>⟨q1.1,q2.1⟩
 obtain⟨a1,a2⟩:=gj.out g7;have HU:=Hd g9;clear h3 h4 g7 g1 HV g9 c1;go_upto_region 5 with fail;rw[gn.out];go_wp2_with fail;refine gi.out.mono ?_;rintro x w5 ⟨s,nx5,hs,gd,ge,g0⟩;obtain⟨p,rfl,h5⟩:∃ p,x=.returned (.tuple #[.int .i64 p,.int .i64 2,.int .i64 0])/\S45 K w mb (UpB w1.heap.size w3.heap.size mb) (two++[(2,varF 0)]++[(p,varF 0)]) nx5 w5:=by
  rcases g0 with ⟨p,k,rfl,rfl,he,_,h⟩|⟨k,rfl,_,gl,_⟩|⟨rfl,_,gk,_⟩
  . obtain rfl:=Zxh.uniq he;exact⟨p,rfl,h⟩
  . exact(gl rfl).elim
  . exact absurd (Zxh.not_on gk) (by omega)
 have gp:Hid (3<=nx5/\nx5<=10000):=Hd ⟨gd,by have:=ge;have:=hs;simp only[Int.mul_one] at *;omega⟩;clear a1 a2;obtain⟨a1,a2⟩:=gj.out h5;have gg:=Hd (FxS.sameB h5 (k:=p) (l:=2) (F:=varF 0) (G:=varF 0) (b:=true) (by simp) (by simp) (by simp));have hd:∀ i,DepF 1 (Zb9 upF (fun _=>false) i):=fun i=>(Zqa (fun F h=>Zy2 h) (Zf9 1 false) i).2
 have g5:∀ j:Nat,LowB w5.heap.size (UpB w1.heap.size w3.heap.size mb):=fun _ W W' o hB hk _ =>
  ⟨⟨(World.cell?_of_block (w:=W) (hk _ (Zab a1))).trans hB.1.1,hB.1.2⟩,⟨(World.cell?_of_block (w:=W) (hk _ (Zab a2))).trans hB.2.1,hB.2.2⟩⟩
 have gh:=Hd (Zwb HK.out HU.out (fun k e=>e.elim) g5 0 (by omega) h5 ((Zqn.app _).app _) (by simp) (q:=0) (Q:=fun _=>false) (by simp[two]) hd (most:=9) (M:=9) (by decide) (by omega) (by have:=gp.out;omega) (by simp[two]) (by decide));clear h5 g0 gd ge hd g5 gi HU;go_wp2_with fail;refine gg.out.mono ?_;rintro x w' ⟨rfl,rfl⟩;go_wp2_with fail;refine gh.out.mono ?_;rintro x w6 ⟨k,s6,rs,nx6,vl,wh,rfl,_,_,_,g4,gc,h6⟩;obtain⟨rfl,rfl⟩:k=2/\wh=true:=by
  rcases gc with ⟨_,rfl,hr,_⟩|⟨rfl,i,rfl,_,hw⟩
  . exact absurd (Zqo.le hr) (by omega)
  . obtain rfl:=Zqo.uniq hw;exact⟨rfl,rfl⟩
 have g6:rs.length=2:=by have:=congrArg List.length g4;simpa using this
 obtain⟨al,cl,rfl⟩:∃ a c,vl=.slice a 2 c:=by
  obtain⟨_,_,_,_,_,_,_,hl⟩:=h6;obtain⟨a,c,e,_⟩:=hl.ints (by simp[g6]);exact⟨a,c,by rw[e];simp[g6]⟩
 have gq:Hid (Below w.heap.size w w6):=Hd (by
  obtain⟨_,_,_,_,_,h,_⟩:=h6;exact h.chg.below0)
 clear h6 g4 gc g6 gh gg a1 a2;go_wp2_with fail;go_ret;exact⟨rfl,gq.out⟩
end Go.Proofs.YtljjokfhdkegbaaGreat

namespace Go.Proofs.YtljjokfhdkegbaaGreat
open Go.Proofs.Tryz
open Go.RowKit Go.Deep Go.ChangeShapes Go.WideShapes
theorem wfI {x:Int}(h:(Lit.int .i64 x).wf=true):okI x:=by
 unfold okI;simp only[Lit.wf,IntKind.min,IntKind.max,IntKind.signed,IntKind.bits,Bool.and_eq_true,decide_eq_true_eq,if_true] at h;omega
theorem Zlg {b off:Nat}(k:Nat):(⟨b,off,none⟩:Addr).add k=⟨b,off+k,none⟩:=by unfold Addr.add;split<;>simp_all
theorem add0 (a:Addr):a.add 0=a:=by simp[Addr.add]
theorem Zfv {w:World}{a:Addr}{v:Value}(h:w.cell? a=some v):a.spot=none:=by
 obtain⟨b,off,spot⟩:=a;cases spot with
 | none=>rfl
 | some s=>simp[World.cell?] at h;split at h<;>simp at h
theorem Zsu {n:Nat}{p:Nat->Ev->Prop}(h:∀ i,i<n->∃ x,p i x):∃ f:Nat->Ev,∀ i,i<n->p i (f i):=by
 classical
 refine⟨fun i=>if hi:i<n then Classical.choose (h i hi) else ⟨0,0,0⟩,fun i hi=>?_⟩;simp only[dif_pos hi];exact Classical.choose_spec (h i hi)
theorem Zl0 {H:Type}{enc:TypeId×Value->H}{P:Program}{w:World}{base:Nat}{spare:Nat->Bool}{held:Bool}{t e:TypeId}{fuel:Nat}{cs:List Value}{x:DataW H×List MemPlace}(ht:P.underlying t=some (.slice e))(h:DataW.trod enc P w base spare held fuel t cs=some x) :
 cs=[.slice none 0 0]\/∃ (a:Addr) (len cap n:Nat),cs=[.slice (some a) len cap]/\len<=cap/\cap<=maxLen/\fuel=n+1/\∀ i,i<len->∃ cs' y,w.cells? base (a.add (i*P.cellsOf e)) (P.cellsOf e)=some cs'/\DataW.trod enc P w base spare held n e cs'=some y:=by
 rcases DataW.trod_slice ht h with ⟨h0,_⟩|⟨a,len,cap,elems,rest,n,hn,e1,_,_,hl,hm,hlen,g0,_⟩
 . exact .inl h0
 . refine .inr ⟨a,len,cap,n,e1,hl,hm,hn,fun i hi=>?_⟩;have:=g0 i hi;rw[List.getElem?_eq_getElem (by omega)] at this;obtain⟨cs',h1,h2⟩:=Option.bind_eq_some_iff.1 this;exact⟨cs',_,h1,h2⟩
theorem open_expr {H:Type}{enc:TypeId×Value->H}{w:World}{base:Nat}{spare:Nat->Bool}{held:Bool}:∀ (fuel:Nat) {cs:List Value} {x:DataW H×List MemPlace},
 DataW.trod enc prog w base spare held fuel 98 cs=some x->∃ e x0 x1 x2,cs=[x0,x1,x2]/\Zbd w e (.agg #[x0,x1,x2]):=by
 intro fuel
 induction fuel using Nat.strongRecOn with
 | _ fuel IH =>
   intro cs x h;obtain⟨xs,k,hk,g7,g5,g6,hf⟩:=DataW.trod_struct underlying98 h;have c1:prog.cellsOf 3=1:=by kernel_rfl
   have c2:prog.cellsOf 36=1:=by kernel_rfl
   have c3:prog.cellsOf 98=3:=by kernel_rfl
   rw[c3] at g5
   match xs,g6,cs,g5 with
   | [y0,y1,y2],_,[v0,v1,v2],_ =>
     have g0:=hf 0 _ rfl;have g1:=hf 1 _ rfl;have g2:=hf 2 _ rfl;simp[c1,c2] at g0 g1 g2;obtain⟨n0,e0,_,w0⟩:=DataW.trod_int underlying3 g0;obtain⟨n1,e1,_,w1⟩:=DataW.trod_int underlying3 g1;simp only[List.cons.injEq,and_true] at e0 e1;subst e0 e1;rcases Zl0 underlying36 g2 with e2|⟨a,len,cap,n,e2,hl,hm,g8,hx⟩
     . simp only[List.cons.injEq,and_true] at e2;subst e2;exact⟨.mk n0 n1 0 (fun _=>.nil),_,_,_,rfl,by unfold Zbd;exact⟨none,0,rfl,wfI w0,wfI w1,by omega,fun k hk=>by omega⟩⟩
     .
      simp only[List.cons.injEq,and_true] at e2;subst e2;have each:∀ i,i<len->∃ q:ExT,∃ x0 x1 x2,w.cell? (a.add (i*3))=some x0/\w.cell? ((a.add (i*3)).add 1)=some x1/\w.cell? ((a.add (i*3)).add 2)=some x2/\Zbd w q (.agg #[x0,x1,x2]):=by
       intro i hi;obtain⟨cs',y,h1,h2⟩:=hx i hi;rw[c3] at h1;obtain⟨_,hlen,g3⟩:=World.cells?_some h1;obtain⟨e,x0,x1,x2,rfl,he⟩:=IH n (by omega) h2;have f0:=g3 0 (by omega);have f1:=g3 1 (by omega);have f2:=g3 2 (by omega);rw[add0] at f0;exact⟨e,x0,x1,x2,by simpa using f0,by simpa using f1,by simpa using f2,he⟩
      obtain⟨q,hq⟩:=choose_lt each;refine⟨.mk n0 n1 len q,_,_,_,rfl,?_⟩;unfold Zbd;refine⟨some a,cap,rfl,wfI w0,wfI w1,by unfold maxLen at hm;omega,fun i hi=>?_⟩;obtain⟨x0,x1,x2,f0,f1,f2,he⟩:=hq i hi;have g4:a.spot=none:=by
       obtain⟨_,_,_,q0,_⟩:=hq 0 (by omega);have:=Zfv q0;simpa [Addr.add] using this
      obtain⟨b,off,spot⟩:=a;dsimp only at g4;subst g4;simp only[Zlg] at f0 f1 f2;exact⟨b,off,x0,x1,x2,rfl,f0,f1,f2,he⟩
theorem Zrt {H:Type}{enc:TypeId×Value->H}{w:World}{base:Nat}{spare:Nat->Bool}{held:Bool}{fuel:Nat}{cs:List Value}{x:DataW H×List MemPlace}
 (h:DataW.trod enc prog w base spare held fuel 36 cs=some x):∃ a l cap,cs=[.slice a l.length cap]/\Zi0 w a l:=by
 have c3:prog.cellsOf 98=3:=by kernel_rfl
 rcases Zl0 underlying36 h with e2|⟨a,len,cap,n,e2,hl,hm,g3,hx⟩
 . exact⟨none,[],0,e2,⟨by simp,fun k hk=>by simp at hk⟩⟩
 .
  subst e2;have each:∀ i,i<len->∃ q:ExT,∃ x0 x1 x2,w.cell? (a.add (i*3))=some x0/\w.cell? ((a.add (i*3)).add 1)=some x1/\w.cell? ((a.add (i*3)).add 2)=some x2/\Zbd w q (.agg #[x0,x1,x2]):=by
   intro i hi;obtain⟨cs',y,h1,h2⟩:=hx i hi;rw[c3] at h1;obtain⟨_,hlen,g0⟩:=World.cells?_some h1;obtain⟨e,x0,x1,x2,rfl,he⟩:=open_expr n h2;have f0:=g0 0 (by omega);have f1:=g0 1 (by omega);have f2:=g0 2 (by omega);rw[add0] at f0;exact⟨e,x0,x1,x2,by simpa using f0,by simpa using f1,by simpa using f2,he⟩
  obtain⟨q,hq⟩:=choose_lt each;refine⟨some a,(List.range len).map q,cap,by simp,⟨by unfold maxLen at hm;simp;omega,fun i hi=>?_⟩⟩;have g2:i<len:=by simpa using hi
  obtain⟨x0,x1,x2,f0,f1,f2,he⟩:=hq i g2;have g1:a.spot=none:=by
   obtain⟨_,_,_,q0,_⟩:=hq 0 (by omega);have:=Zfv q0;simpa [Addr.add] using this
  obtain⟨b,off,spot⟩:=a;dsimp only at g1;subst g1;simp only[Zlg] at f0 f1 f2;exact⟨b,off,x0,x1,x2,rfl,f0,f1,f2,by simpa using he⟩
theorem open_evs {H:Type}{enc:TypeId×Value->H}{w:World}{base:Nat}{spare:Nat->Bool}{held:Bool}{fuel:Nat}{cs:List Value}{x:DataW H×List MemPlace}
 (h:DataW.trod enc prog w base spare held fuel 37 cs=some x):∃ a l cap,cs=[.slice a l.length cap]/\EvsAt w a l/\(∀ ev∈l,okI ev.after/\okI ev.kind/\okI ev.level)/\(a=none->cap=0)/\l.length<=cap/\cap<=maxLen:=by
 have c1:prog.cellsOf 3=1:=by kernel_rfl
 have c3:prog.cellsOf 144=3:=by kernel_rfl
 rcases Zl0 underlying37 h with e2|⟨a,len,cap,n,e2,hl,hm,g9,hx⟩
 . exact⟨none,[],0,e2,⟨by simp,fun k hk=>by simp at hk⟩,by simp,fun _=>rfl,by simp,by simp⟩
 .
  subst e2;have each:∀ i,i<len->∃ q:Ev,w.cell? (a.add (i*3))=some (.int .i64 q.after)/\w.cell? ((a.add (i*3)).add 1)=some (.int .i64 q.kind)/\w.cell? ((a.add (i*3)).add 2)=some (.int .i64 q.level)/\okI q.after/\okI q.kind/\okI q.level:=by
   intro i hi;obtain⟨cs',y,h1,h2⟩:=hx i hi;rw[c3] at h1;obtain⟨_,hlen,g3⟩:=World.cells?_some h1;obtain⟨xs,k,hk,g8,_,g5,hf⟩:=DataW.trod_struct underlying144 h2
   match xs,g5,cs',hlen with
   | [y0,y1,y2],_,[v0,v1,v2],_ =>
     have g0:=hf 0 _ rfl;have g1:=hf 1 _ rfl;have g2:=hf 2 _ rfl;simp[c1] at g0 g1 g2;obtain⟨n0,e0,_,w0⟩:=DataW.trod_int underlying3 g0;obtain⟨n1,e1,_,w1⟩:=DataW.trod_int underlying3 g1;obtain⟨n2,e2,_,w2⟩:=DataW.trod_int underlying3 g2;simp only[List.cons.injEq,and_true] at e0 e1 e2;subst e0 e1 e2;have f0:=g3 0 (by omega);have f1:=g3 1 (by omega);have f2:=g3 2 (by omega);rw[add0] at f0;exact⟨⟨n0,n1,n2⟩,by simpa using f0,by simpa using f1,by simpa using f2,wfI w0,wfI w1,wfI w2⟩
  obtain⟨q,hq⟩:=Zsu each;refine⟨some a,(List.range len).map q,cap,by simp,⟨by unfold maxLen at hm;simp;omega,fun i hi=>?_⟩,?_,by simp,by simpa using hl,hm⟩
  .
   have g6:i<len:=by simpa using hi
   obtain⟨f0,f1,f2,_⟩:=hq i g6;have g4:a.spot=none:=by
    obtain⟨q0,_⟩:=hq 0 (by omega);have:=Zfv q0;simpa [Addr.add] using this
   obtain⟨b,off,spot⟩:=a;dsimp only at g4;subst g4;simp only[Zlg] at f0 f1 f2;exact⟨b,off,rfl,by simpa using f0,by simpa using f1,by simpa using f2⟩
  . intro ev g7;obtain⟨i,hi,rfl⟩:=List.mem_map.1 g7;exact(hq i (by simpa using hi)).2.2.2
theorem open_ask {H:Type}{enc:TypeId×Value->H}{w:World}{base:Nat}{held:Bool}{fuel:Nat}{v:Value}{cs:Array Value}{x:DataW H×List MemPlace}(hv:v=.agg cs)
 (h:DataW.trod enc prog w base (fun _=>true) held fuel 39 v.cells.toList=some x):∃ q ao ae ap co ce cp,v=askV q ao ae ap co ce cp/\AskAt w q ao ae ap/\(∀ ev∈q.plan,okI ev.after/\okI ev.kind/\okI ev.level)/\(ao=none->co=0)/\(ap=none->cp=0)/\q.plan.length<=cp/\cp<=maxLen:=by
 subst hv;obtain⟨xs,k,hk,gh,g5,g7,hf⟩:=DataW.trod_struct underlying39 h;have c1:prog.cellsOf 3=1:=by kernel_rfl
 have c2:prog.cellsOf 23=1:=by kernel_rfl
 have c4:prog.cellsOf 36=1:=by kernel_rfl
 have c5:prog.cellsOf 37=1:=by kernel_rfl
 have c3:prog.cellsOf 39=4:=by kernel_rfl
 rw[c3] at g5;obtain⟨cl⟩:=cs;simp only[Value.cells] at g5 hf
 match xs,g7,cl,g5 with
 | [y0,y1,y2,y3],_,[v0,v1,v2,v3],_ =>
   have g0:=hf 0 _ rfl;have g1:=hf 1 _ rfl;have g2:=hf 2 _ rfl;have g3:=hf 3 _ rfl;simp[c1,c2,c4,c5] at g0 g1 g2 g3;obtain⟨n0,e0,_,w0⟩:=DataW.trod_int underlying3 g0;simp only[List.cons.injEq,and_true] at e0;subst e0;obtain⟨ao,zs,co,e1,ge,gb⟩:∃ a zs c,v1=.slice a zs.length c/\Za2 w a zs/\(a=none->c=0):=by
    rcases open_ints underlying23 underlying3 (by kernel_rfl) g1 with ⟨g4,_⟩|⟨x,l,c,zs,g4,_,hl,hm,hz,_,g6,g8⟩
    . simp at g4;subst g4;obtain⟨a,c,e,h1,h2⟩:=sliceIs_of_row (w:=w) (a:=none) (len:=0) (cap:=0) (.inl ⟨rfl,rfl,rfl,rfl⟩);exact⟨a,_,c,e,h1,h2⟩
    . simp at g4;subst g4;obtain⟨a,c,e,h1,h2⟩:=sliceIs_of_row (w:=w) (.inr ⟨_,rfl,hl,hm,by simpa using hz,g6,g8⟩);exact⟨a,_,c,e,h1,h2⟩
   obtain⟨ae,es,ce,e2,gg⟩:=Zrt g2;obtain⟨ap,evs,cp,e3,gf,g9,ga,gd,gc⟩:=open_evs g3;simp only[List.cons.injEq,and_true] at e2 e3;subst e1 e2 e3;exact⟨⟨n0,zs,es,evs⟩,ao,ae,ap,co,ce,cp,rfl,⟨wfI w0,ge,gg,gf⟩,g9,gb,ga,gd,gc⟩
end Go.Proofs.YtljjokfhdkegbaaGreat

namespace Go.Proofs.YtljjokfhdkegbaaGreat
open Go.Proofs.Tryz
open Go.RowKit Go.Deep Go.ChangeShapes Go.WideShapes
end Go.Proofs.YtljjokfhdkegbaaGreat
