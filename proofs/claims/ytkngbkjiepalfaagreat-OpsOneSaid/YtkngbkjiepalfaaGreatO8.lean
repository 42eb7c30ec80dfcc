/- Several texts in one file: contracts of the program's functions and what follows from them. -/
import Derived.Test.YtkngbkjiepalfaaGreatO7
import Derived.Deep.Slices
import Derived.ChangeArms
import Derived.WideShapes
import Derived.ChangeSlices
set_option linter.unusedSimpArgs false
set_option linter.unusedVariables false
set_option linter.unusedSectionVars false
set_option linter.unnecessarySimpa false
set_option maxRecDepth 100000
set_option maxHeartbeats 8000000
namespace Go.Proofs.YtkngbkjiepalfaaGreat
open Go.RowKit
def Zck (n:Nat):Nat:=4*2^(2*n)+192*2^n
theorem Zsh (n:Nat) (hn:n<=8) (w:World):Calls Tryz.prog 178 #[.int .i64 n,.int .i64 40] w fun x w'=>x=.returned (.int .i64 (Zck n))/\w=w':=by
 have HB:Hid (∀ (z:Int) (k:Nat),z=k->k<=16->Calls Tryz.prog 205 #[.int .i64 z] w fun x w'=>x=.returned (.int .i64 (2^k:Nat))/\w=w'):=Hd fun z k e hk=>by subst e;exact Zzt k (by omega) w
 have hA:2^(2*n)<=65536:=Nat.le_trans (Nat.pow_le_pow_right (by omega) (show 2*n<=16 by omega)) (by decide);have hB:2^n<=65536:=Nat.le_trans (Nat.pow_le_pow_right (by omega) (show n<=16 by omega)) (by decide);have HB1:=Hd (fun z e=>HB.out z (2*n) e (by omega));have HB2:=Hd (fun z e=>HB.out z n e (by omega));unfold Zck;obtain⟨a,ha⟩:∃ a,a=2^(2*n):=⟨_,rfl⟩;obtain⟨b,hb⟩:∃ b,b=2^n:=⟨_,rfl⟩;rw[<- ha] at hA HB1 ⊢;rw[<- hb] at hB HB2 ⊢;clear ha hb HB
 go_enter Tryz.func178,Tryz.ntmps178
 go_wp2_with fail;refine(HB1.out _ (by omega)).mono ?_;rintro x w' ⟨rfl,rfl⟩;go_wp2_with fail;refine(HB2.out _ (by omega)).mono ?_;rintro x w' ⟨rfl,rfl⟩;go_wp2_with fail;go_ret;exact⟨by congr 2,rfl⟩
theorem Ztj (n:Nat) (hn:n<=8) (w:World):Calls Tryz.prog 103 #[.int .i64 n,.int .i64 40] w fun x w'=>x=.returned (.int .i64 (Zck n))/\w=w':=by
 have HE:=Hd (Zsh n hn w)
 go_enter Tryz.func103,Tryz.ntmps103
 go_wp2_with fail;refine HE.out.mono ?_;rintro x w' ⟨rfl,rfl⟩;go_wp2_with fail;go_ret;exact⟨rfl,rfl⟩
theorem Zwp {n:Nat} (hn:n<=6):1<=Zck n/\Zck n<=1048576:=by
 have h1:2^(2*n)<=4096:=Nat.le_trans (Nat.pow_le_pow_right (by omega) (show 2*n<=12 by omega)) (by decide);have h2:2^n<=64:=Nat.le_trans (Nat.pow_le_pow_right (by omega) hn) (by decide);have h3:0<2^n:=Nat.pow_pos (by omega);unfold Zck;omega
theorem Zeu {n k:Nat} (hk:k<=192):k*2^n<=Zck n:=by
 have:=Nat.mul_le_mul_right (2^n) hk;unfold Zck;omega
theorem Ztk {n j s:Nat} (hn:1<=n) (hs:s<=40) (hj:j<5):2*2^n+j*(39*2^n+1)+s*2^n<=Zck n:=by
 have h1:=Nat.mul_le_mul_right (2^n) hs;have h2:=Nat.mul_le_mul_right (39*2^n+1) (Nat.le_of_lt_succ hj);have h3:2^1<=2^n:=Nat.pow_le_pow_right (by omega) hn;have h4:2^(n+1)<=2^(2*n):=Nat.pow_le_pow_right (by omega) (by omega);rw[Nat.pow_succ] at h4;unfold Zck;omega
theorem Ztl {n j s k:Nat} (hs:s<=40) (h1:1<=s) (h:k<=2*2^n+j*(39*2^n+1)+Zhk n s):k<=2*2^n+(j+1)*(39*2^n+1):=by
 have h2:=Zhy n h1;have h3:=Nat.mul_le_mul_right (2^n) hs;rw[Nat.add_mul];have h4:0<2^n:=Nat.pow_pos (by omega);omega
theorem Zyh {n j k:Nat} (hj:j<=5) (h:k<=2*2^n+j*(39*2^n+1)) (hn:2<=n):k+7<=Zck n:=by
 have h2:=Nat.mul_le_mul_right (39*2^n+1) hj;have h3:2^2<=2^n:=Nat.pow_le_pow_right (by omega) hn;have h4:2^(n+2)<=2^(2*n):=Nat.pow_le_pow_right (by omega) (by omega);rw[Nat.pow_add] at h4;unfold Zck;omega
def two:List (Int×BF):=[(0,fun _=>false),(1,fun _=>true)]
theorem Zw7:B2 two:=⟨by simp[two],by simp[two]⟩
theorem Zre {K:Law} (n room:Nat) (w:World) (hn:n<=64) (h1:1<=room) (h2:room<=1048576) :
 Calls Tryz.prog 99 #[.int .i64 n,.int .i64 room] w fun x w'=>∃ mb,x=.returned (.tuple #[.pointer (some ⟨mb,0,none⟩),.int .i64 0])/\∃ o m V,SatE K n (fun _=>True) room w mb two 2 w' o m V/\m.waits=[]/\m.calls=0/\m.d.pool.many=0:=by
 refine(Yar (F:=K (man0 n room).d (fun _ _=>true)) (fun _=>none) n room w (fun k r h=>by cases h) hn h1 h2).mono ?_;rintro x w1 ⟨mb,o1,rfl,hm0,hc0,hl0,_⟩;exact⟨mb,rfl,o1,man0 n room,fun _ _=>true,⟨hm0,hl0,Yap n room hn,by simp[man0,store0],trivial,by simp[man0,store0,pool0],rfl,by simp[man0,two,ef];constructor<;>rfl,ChgX.of_chg hc0 NoB⟩,rfl,rfl,rfl⟩
def OrdP (zs:List Int) (l:List Nat):Prop:=∀ j,j<zs.length->((l.getD j 0:Nat):Int)=at0 zs j
def SetP (K:Law) (q:AskD) (n:Nat) (w:World) (y:Ending) (w':World):Prop :=
 ∃ mb vl vx wb hs nx,y=.returned (.tuple #[.pointer (some ⟨mb,0,none⟩),vl,vx,.bool true])/\Below w.heap.size w wb/\hs.map Prod.snd=q.es.map fnT/\nx<=1000/\∃ o m V,LawT K n (OrdP q.order) (Zck n) wb mb (two++hs) nx (fun ws c=>ws=q.plan/\c=0) hs hs w' o m V vl vx/\(2<=n->m.d.pool.many+7<=Zck n)
def SetI (K:Law) (q:AskD) (n:Nat) (wb:World) (mb:Nat) (j:Nat) (s8 s9:Value) (W:World):Prop :=
 ∃ hs nx,hs.map Prod.snd=(q.es.take j).map fnT/\nx<=2+120*(j:Int)/\∃ o m V,LawT K n (OrdP q.order) (Zck n) wb mb (two++hs) nx (fun ws c=>ws=[]/\True) hs hs W o m V s8 s9/\m.d.pool.many<=2*2^n+j*(39*2^n+1)
theorem Zkx {K:Law} (hK:Zbo K) (q:AskD) (ao ae ap:Option Addr) (co ce cp:Nat) (w:World) (h:AskAt w q ao ae ap) (hsm:Zg6 q) (n:Nat) (hqn:q.vars=n) :
 Calls Tryz.prog 29 #[askV q ao ae ap co ce cp] w (SetP K q n w):=by
 have hlo:=hsm.lo;have hhi:=hsm.hi;have hes:=hsm.es;have hpl:=hsm.plan;have HSM:=Hd hsm;have HASK:=Hd h;have hn6:n<=6:=by omega
 have hn1:1<=n:=by omega
 have hrm:=Zwp hn6;obtain⟨Q,hQ⟩:∃ Q:Ending->World->Prop,Q=SetP K q n w:=⟨_,rfl⟩;rw[<- hQ];have HQ:=Hd hQ;obtain⟨w1,hw1⟩:∃ w1,w1=w.alloc (.cells #[.int .i64 q.vars,.slice ao q.order.length co,.slice ae q.es.length ce,.slice ap q.plan.length cp] 39):=⟨_,rfl⟩;have HW1:Hid (_=w1):=Hd hw1.symm;have HB1:Hid (Below w.heap.size w w1):=by rw[hw1];exact Hd (Zad _ _)
 have hblk:w1.heap[w.heap.size]?=some (.cells #[.int .i64 q.vars,.slice ao q.order.length co,.slice ae q.es.length ce,.slice ap q.plan.length cp] 39 (0,0)):=by rw[hw1];exact heap_alloc_new _ _
 have hs1:w1.heap.size=w.heap.size+1:=by rw[hw1];simp
 have HQN:=Hd hqn;rw[hqn] at hblk HW1;have d0:w1.cell? ⟨w.heap.size,0,none⟩=some (.int .i64 (n:Nat)):=by rw[cell_of_row _ _ 0 _ _ _ hblk];rfl
 have d1:w1.cell? ⟨w.heap.size,1,none⟩=some (.slice ao q.order.length co):=by rw[cell_of_row _ _ 1 _ _ _ hblk];rfl
 have d2:w1.cell? ⟨w.heap.size,2,none⟩=some (.slice ae q.es.length ce):=by rw[cell_of_row _ _ 2 _ _ _ hblk];rfl
 have d3:w1.cell? ⟨w.heap.size,3,none⟩=some (.slice ap q.plan.length cp):=by rw[cell_of_row _ _ 3 _ _ _ hblk];rfl
 have hqz:=hqn;unfold askV;rw[hqz];obtain⟨rm,hrmE⟩:∃ rm,rm=Zck n:=⟨_,rfl⟩;have HRME:=Hd hrmE;have HRM:=Hd (fun W=>Ztj n (by omega) W);rw[<- hrmE] at HRM hrm;clear h hsm hQ hw1 hblk hrmE hqn hqz;have HNEW:=Hd (Zre (K:=K) n rm w1.drew (by omega) hrm.1 hrm.2)
 go_enter Tryz.func29,Tryz.ntmps29
 go_upto_region 1 with fail;rw[HW1.out];refine Zap (fun W:World=>W.cell? ⟨w.heap.size,0,none⟩=some (.int .i64 (n:Nat))/\True) false 11 [(0,false),(1,false),(2,false),(3,false),(4,true),(5,true),(6,false),(7,false),(8,false),(9,false),(10,false)] (by kernel_rfl) (by kernel_rfl) ⟨d0,trivial⟩ ?_;simp only[planned,Zdf]
 iterate 4
  refine Zaq rfl ?_;apply Exists.intro;refine⟨fun w' hw=>?_,?_⟩
  ·
   obtain⟨h1,_⟩:=hw;go_simp;rfl
  simp only[Zag]
 refine Zb7 (R:=fun v w'=>v=.int .i64 (rm:Nat)/\w'=w1.drew) rfl (by go_simp) ((HRM.out _).mono (fun e w' he=>?_)) ?_
 ·
  obtain⟨rfl,rfl⟩:=he;exact⟨_,rfl,⟨d0,trivial⟩,rfl,rfl⟩
 rintro v w'-⟨rfl,rfl⟩;simp only[Zag];refine Zb7 (R:=fun v w'=>∃ mb,v=.tuple #[.pointer (some ⟨mb,0,none⟩),.int .i64 0]/\∃ o m V,SatE K n (fun _=>True) rm w1.drew mb two 2 w' o m V/\m.waits=[]/\m.calls=0/\m.d.pool.many=0) rfl (by go_simp) (HNEW.out.mono (fun e w' he=>?_)) ?_
 ·
  obtain⟨mb,rfl,o,m,V,hst,hrest⟩:=he;exact⟨_,rfl,⟨(hst.chg.below0.cell (p:=⟨w.heap.size,0,none⟩) (Zaa (w:=w1.drew) d0)).trans d0,trivial⟩,mb,rfl,o,m,V,hst,hrest⟩
 rintro v w2-⟨mb,rfl,o,m,V,hst,hwt,hcl,hmn⟩;simp only[Zag]
 iterate 5
  refine Zaq rfl ?_;apply Exists.intro;refine⟨fun w' hw=>?_,?_⟩
  ·
   obtain⟨h1,_⟩:=hw;go_simp;rfl
  simp only[Zag]
 refine Zes ?_;obtain⟨wb,hwb⟩:∃ wb,wb=w1.drew:=⟨_,rfl⟩;rw[<- hwb] at hst;have HBW:Hid (Below w.heap.size w wb):=Hd (by rw[hwb];exact HB1.out.trans ((Zae w1 1).mono HB1.out.size));have c0:wb.cell? ⟨w.heap.size,0,none⟩=some (.int .i64 (n:Nat)):=by rw[hwb];exact d0
 have c1:wb.cell? ⟨w.heap.size,1,none⟩=some (.slice ao q.order.length co):=by rw[hwb];exact d1
 have c2:wb.cell? ⟨w.heap.size,2,none⟩=some (.slice ae q.es.length ce):=by rw[hwb];exact d2
 have c3:wb.cell? ⟨w.heap.size,3,none⟩=some (.slice ap q.plan.length cp):=by rw[hwb];exact d3
 have hbn:w.heap.size<wb.heap.size:=Zaa c0;have HAB:=Hd (HASK.out.below HBW.out);clear hwb HNEW HRM d0 d1 d2 d3 HW1 hs1
 have HARR:=Hd (Zpz (K:=K) hst (by omega) (by rw[HRME.out];have:=Zeu (n:=n) (k:=6) (by omega);simp[two];omega) (c:=co) (HAB.out.order.below hst.chg.below0) (fun h0 x hx=>by
  obtain⟨b,off,e,hc⟩:=HAB.out.order.cells 0 h0;rw[hx] at e;cases e;exact hst.none0 (Zaa hc)) (by
  rcases Nat.eq_zero_or_pos q.order.length with h0|h0
  ·
   exact .inl h0
  ·
   have:=HSM.out.order h0;rw[HQN.out] at this;exact .inr (Zyd this)))
 have e0:=(hst.chg.below0.cell (p:=⟨w.heap.size,0,none⟩) (Zaa c0)).trans c0;have e1:=(hst.chg.below0.cell (p:=⟨w.heap.size,1,none⟩) (Zaa c1)).trans c1;have HWT:=Hd hwt;have HMN:=Hd hmn;clear hst hwt hcl hmn;go_wp2_with fail;refine HARR.out.mono ?_;rintro y w3 ⟨rfl,o3,m3,V3,hst3,hwt3,hcl3,hc3,hmn3⟩;have HI0:Hid (SetI K q n wb mb 0 (.slice none 0 0) (.slice none 0 0) w3):=Hd ⟨[],2,rfl,by omega,o3,m3,V3,⟨by rw[HRME.out] at hst3;exact hst3,Zw7,⟨by rw[hwt3,HWT.out],trivial⟩,⟨Zrk _ _ _,fun k hk=>by cases hk⟩,⟨⟨[],rfl,Zrk _ _ _,fun i v hv=>by simp at hv⟩,fun k hk=>by cases hk⟩⟩,by have:=HMN.out;simp[two] at hmn3;omega⟩;have f2:=(hst3.chg.below0.cell (p:=⟨w.heap.size,2,none⟩) (Zaa c2)).trans c2;clear hst3 hwt3 hcl3 hc3 hmn3 HARR e0 e1;go_wp2_with fail
 go_loopw [8,9,40] (fun s8 s9 s40 wr=>∃ j:Nat,j<=q.es.length/\s40=.int .i64 j/\Hid (SetI K q n wb mb j s8 s9 wr)) (fun _ _ s40 _=>q.es.length-(intOf s40).toNat)
 case atStart=>exact⟨0,Nat.zero_le _,rfl,HI0⟩
 case round =>
  clear HI0 f2
  rename World=>wy
  obtain⟨j,hj,rfl,HI⟩:=hrel;obtain⟨hs,nx,hsnd,hnx,hle⟩:=HI.out;obtain⟨o0,m0,V0,hle0,hmn0⟩:=hle;have HLE:Hid (∃ o m V,LawT K n (OrdP q.order) (Zck n) wb mb (two++hs) nx (fun ws c=>ws=[]/\True) hs hs wy o m V u8 u9/\m.d.pool.many<=2*2^n+j*(39*2^n+1)):=Hd ⟨o0,m0,V0,hle0,hmn0⟩;have hle1:=hle0.below0;have HLB0:=Hd hle1;have HSND:=Hd hsnd;have hhl:hs.length=j:=by have:=congrArg List.length hsnd;simpa [Nat.min_eq_left hj] using this
  clear HI hsnd hle0 hmn0 hle1 o0 m0 V0
  by_cases hlt:j<q.es.length
  ·
   have hjz:(j:Int)<q.es.length:=by omega
   have hb0:=HLB0.out;obtain⟨b,off,x0,x1,x2,ea,k0,k1,k2,hx⟩:=HAB.out.es.cells j hlt;subst ea;obtain⟨zo,zv,za,zn,zc,rfl,rfl,rfl⟩:=hx.parts;have HEX:=Hd (HSM.out.expr _ (List.getElem_mem hlt));have hsz40:=HEX.out.1;have hsz1:=ExT.size_pos q.es[j];obtain⟨e,he⟩:∃ e,e=q.es[j]:=⟨_,rfl⟩;rw[<- he] at hx HEX hsz40 hsz1;have HX:=Hd hx;have q0:=(hb0.cell (p:=⟨b,off+j*3,none⟩) (Zaa k0)).trans k0;have q1:=(hb0.cell (p:=⟨b,off+j*3+1,none⟩) (Zaa k1)).trans k1;have q2:=(hb0.cell (p:=⟨b,off+j*3+2,none⟩) (Zaa k2)).trans k2;have HTK:Hid ((q.es.take (j+1)).map fnT=(q.es.take j).map fnT++[fnT e]):=Hd (by rw[List.take_succ_eq_append_getElem hlt,List.map_append,he];rfl);obtain⟨wz,hwz⟩:∃ wz,wz=wy.alloc (.cells #[.int .i64 zo,.int .i64 zv,.slice za zn zc] 104):=⟨_,rfl⟩;have HWZ:Hid (_=wz):=Hd hwz.symm;have hbz:Below wy.heap.size wy wz:=by rw[hwz];exact Zad _ _
   have hblk:wz.heap[wy.heap.size]?=some (.cells #[.int .i64 zo,.int .i64 zv,.slice za zn zc] 104 (0,0)):=by rw[hwz];exact heap_alloc_new _ _
   have p0:wz.cell? ⟨wy.heap.size,0,none⟩=some (.int .i64 zo):=by rw[cell_of_row _ _ 0 _ _ _ hblk];rfl
   have p1:wz.cell? ⟨wy.heap.size,1,none⟩=some (.int .i64 zv):=by rw[cell_of_row _ _ 1 _ _ _ hblk];rfl
   have p2:wz.cell? ⟨wy.heap.size,2,none⟩=some (.slice za zn zc):=by rw[cell_of_row _ _ 2 _ _ _ hblk];rfl
   obtain⟨o4,m4,V4,lt0,mn4⟩:=HLE.out;have lt4:=lt0.below hbz;have n4:o4 wy.heap.size=none:=lt0.sat.lt.none (Nat.le_refl _);have hlk:∀ g,u8.ownBlock=some g->g<wy.heap.size:=fun g hg=>(lt0.l.own.lt g hg).2
   have hll:(two++hs).length=2+j:=by simp[two,hhl];omega
   have HCALL:=Hd (Zn4 hK e _ (two++hs) nx wz o4 m4 V4 _ lt4.sat ⟨lt4.st.1,mn4⟩ lt4.b2 HEX.out.2.1.valid (by have:=HEX.out.2.2;rw[HQN.out] at this;exact this) hx (by omega) (Ztk hn1 hsz40 (by omega)));have HLT4:=Hd lt4;clear hb0 k0 k1 k2 hx hbz hblk hwz lt4 HLE he lt0;go_upto_region 9 with fail;rw[HWZ.out];clear q0 q1 q2;go_wp2_with fail;refine HCALL.out.mono ?_;rintro y w5 ⟨k,rfl,hk,o5,m5,V5,hc5,⟨hw5,hmn5⟩,hs5⟩;have HMN5:Hid (m5.d.pool.many<=2*2^n+(j+1)*(39*2^n+1)):=Hd (Ztl hsz40 hsz1 hmn5);have HLT5:Hid (LawT K n (OrdP q.order) (Zck n) wb mb (two++(hs++[(k,fnT e)])) (k+1) (fun ws c=>ws=[]/\True) hs hs w5 o5 m5 V5 u8 u9):=Hd (HLT4.out.go (by rw[<- List.append_assoc];exact hs5) (Zw7.app _) ⟨hw5,trivial⟩ hc5);have r0:=hc5.cell (p:=⟨wy.heap.size,0,none⟩) p0 n4 (fun e=>e);have r1:=hc5.cell (p:=⟨wy.heap.size,1,none⟩) p1 n4 (fun e=>e);have r2:=hc5.cell (p:=⟨wy.heap.size,2,none⟩) p2 n4 (fun e=>e);have n5:=hc5.none' (Zaa p0) n4;have hsz5:wb.heap.size<=w5.heap.size:=hs5.chg.size;clear hc5 hw5 hs5 hmn5 HCALL p0 p1 p2 HLT4;go_upto_region 13 with (at_builtin;refine Zch Zkb _ rfl _ _ rfl wb.heap.size _ (Zbb (hs.map Prod.fst)) _ rfl rfl rfl rfl rfl (by exact HLT5.out.l.own) (by simp[Zbb];omega) hsz5 ?_;intro v6 w6 hown6 g1 g2 g3 g4 hk6)
   have hw6:=Zme g1 g2 g3 g4 hk6;have hk6':w6.heap[wy.heap.size]?=w5.heap[wy.heap.size]?:=hw6.keep _ (Zaa r0) (fun e=>by have:=hlk _ e;omega);have t0:=(World.cell?_of_block (w:=w5) (a:=⟨wy.heap.size,0,none⟩) hk6').trans r0;have t1:=(World.cell?_of_block (w:=w5) (a:=⟨wy.heap.size,1,none⟩) hk6').trans r1;have t2:=(World.cell?_of_block (w:=w5) (a:=⟨wy.heap.size,2,none⟩) hk6').trans r2;have HLT6:=Hd (HLT5.out.appL hown6 g1 g2 g3 g4 hk6 (p:=(k,fnT e)));have a0:=(HLT6.out.below0.cell (p:=⟨w.heap.size,0,none⟩) (Zaa c0)).trans c0;have HTB:=Hd (Zlg e _ n (by omega) w6 (by omega) HEX.out.2.1 (HX.out.below HLT6.out.below0));clear hw6 hk6' hown6 g1 g2 g3 g4 hk6 r0 r1 r2 HLT5 hlk;go_wp2_with fail;refine HTB.out.mono ?_;rintro y w7 ⟨v7,rfl,hown7,hb7⟩;obtain⟨av,cv,rfl,_⟩:=hown7.slice;have HLB:Hid (LawB w7 o5 wb.heap.size (.slice av (Zbz (tabB n (fnT e))).length cv) (tabB n (fnT e))):=Hd (Zx1 (n:=n) hown7 (by rw[Zbg];exact Zw1 (by omega)) HLT6.out.sat.lt HLT6.out.sat.chg.size);have HLT7:=Hd (HLT6.out.below hb7);obtain⟨rs,hrs1,hrs2,hrs3⟩:=HLT7.out.x.ex;have HR2:=Hd hrs2;have HR3:=Hd hrs3;have hrl:rs.length=hs.length:=by rw[hrs1];simp
   have hsz7:wb.heap.size<=w7.heap.size:=HLT7.out.sat.chg.size;clear hown7 hb7 hrs2 hrs3 HTB HLT6 t0 t1 t2 a0;go_upto_region 14 with (at_builtin;refine Zch Zur _ rfl _ _ rfl wb.heap.size _ rs _ rfl rfl rfl rfl rfl (by exact HR2.out) (by omega) hsz7 ?_;intro v8 w8 hown8 g1 g2 g3 g4 hk8)
   have HLT8:=Hd (HLT7.out.appX HLB.out rfl hrl HR2.out HR3.out hown8 g1 g2 g3 g4 hk8 (p:=(k,fnT e)));have HIN:Hid (SetI K q n wb mb (j+1) v6 v8 w8):=Hd ⟨hs++[(k,fnT e)],k+1,by rw[List.map_append,HSND.out,HTK.out];rfl,by omega,o5,m5,V5,HLT8.out,HMN5.out⟩;clear hown8 g1 g2 g3 g4 hk8 HR2 HR3 HLT7 HLB HLT8;go_wp2_with fail;go_roundw
   case rel=>exact⟨j+1,by omega,by go_num,HIN⟩
   case measure=>simp[intOf];omega
  ·
   have hje:j=q.es.length:=by omega
   have hjz:¬ (j:Int)<q.es.length:=by omega
   obtain⟨o4,m4,V4,lt4,mn4⟩:=HLE.out;have HMN4:=Hd mn4;clear mn4;have e3:=(lt4.below0.cell (p:=⟨w.heap.size,3,none⟩) (Zaa c3)).trans c3;have hw4:m4.waits=[]:=lt4.st.1;have hcode:Ze1 n m4.waits.length q.plan=0:=by
    rw[hw4];have:=HSM.out.planOk;rw[HQN.out] at this;exact this
   have HPL:=Hd (Zqj lt4.sat (c:=cp) (HAB.out.plan.below lt4.below0) (fun h0 x hx=>by
    obtain⟨b,off,e,hc,_⟩:=HAB.out.plan.cells 0 h0;rw[hx] at e;cases e;exact lt4.sat.none0 (Zaa hc)) (by rw[hw4];simp))
   rw[hcode] at HPL;have HLT4:=Hd lt4;have HW4:=Hd hw4;clear lt4 hw4 hcode HLE;go_wp2_with fail;refine HPL.out.mono ?_;rintro y w5 ⟨rfl,o5,m5,hpd⟩
   have HF:Hid (Q (.returned (.tuple #[.pointer (some ⟨mb,0,none⟩),u8,u9,.bool true])) w5):=Hd (by
    rw[HQ.out];refine⟨mb,u8,u9,wb,hs,nx,rfl,HBW.out,by rw[HSND.out,hje,List.take_length],by omega,o5,m5,V4,HLT4.out.go hpd.sat HLT4.out.b2 ?_ (ChgX.of_chg hpd.chg NoB),?_⟩
    rotate_left
    ·
     rw[hpd.d];exact Zyh (by omega) HMN4.out
    have:=hpd.yes rfl;rw[HW4.out] at this;exact⟨by simpa using this.1,by simpa using this.2⟩)
   clear hpd HPL;go_wp2_with fail;refine bodyPost_ret (Zc2 rfl _ _ _) rfl ?_;exact HF.out
open Go.RowKit
theorem Zlo (v:Nat) (w:World):Calls Tryz.prog 148 #[.int .i64 v] w fun y w'=>y=.returned (.agg #[.int .i64 3,.int .i64 v,.slice none 0 0])/\Below w.heap.size w w':=by
 obtain⟨w1,hw1⟩:∃ w1,w1=w.alloc (.cells #[.int .i64 3,.int .i64 v,.slice none 0 0] 104):=⟨_,rfl⟩;have hb1:Below w.heap.size w w1:=by rw[hw1];exact Zad _ _
 have hx1:w1.heap[w.heap.size]?=some (.cells #[.int .i64 3,.int .i64 v,.slice none 0 0] 104 (0,0)):=by rw[hw1];exact heap_alloc_new _ _
 have d0:w1.cell? ⟨w.heap.size,0,none⟩=some (.int .i64 3):=by rw[cell_of_row _ _ 0 _ _ _ hx1];rfl
 have d1:w1.cell? ⟨w.heap.size,1,none⟩=some (.int .i64 v):=by rw[cell_of_row _ _ 1 _ _ _ hx1];rfl
 have d2:w1.cell? ⟨w.heap.size,2,none⟩=some (.slice none 0 0):=by rw[cell_of_row _ _ 2 _ _ _ hx1];rfl
 have HW1:Hid (_=w1):=Hd hw1.symm;have HB1:=Hd hb1;have HX1:=Hd hx1;clear hw1 hb1 hx1
 go_enter Tryz.func148,Tryz.ntmps148
 go_wp2_with fail;rw[HW1.out];refine bodyPost_ret (v:=.agg #[.int .i64 3,.int .i64 v,.slice none 0 0]) ?_ rfl ⟨rfl,HB1.out⟩;exact results_cell_row rfl _ w1 w.heap.size _ #[.int .i64 3,.int .i64 v,.slice none 0 0] (0,0) _ rfl HX1.out Tryz.underlying104 rfl (by kernel_rfl)
def exA:ExT:=.mk 5 0 2 fun i=>.mk 3 (i:Nat) 0 fun _=>.nil
theorem Zxp:exA.size=3:=rfl
theorem Ybe (ρ:Nat->Bool):fnT exA ρ=(ρ 0&&ρ 1):=by
 show decide (cntT 2 (fun i=>ρ ((i:Nat):Int).toNat)=2)=(ρ 0&&ρ 1)
 rw[Zq4];rw[Bool.eq_iff_iff,decide_eq_true_iff]
 show (if ρ 0 then 1 else 0)+(if ρ 1 then 1 else 0)=2↔_
 cases ρ 0<;>cases ρ 1<;>simp
theorem Zxq:Zbj exA=[0,1]:=rfl
theorem Ybg:okT exA 1:=by
 refine⟨by omega,by decide,fun h=>absurd h (by decide),fun _=>rfl,by decide,by decide,fun i hi=>?_⟩;refine⟨by omega,by decide,fun _=>⟨by omega,by omega⟩,fun h=>absurd rfl h,by decide,by decide,fun j hj=>by omega⟩
def exC:Array Value:=#[.int .i64 3,.int .i64 0,.slice none 0 0,.int .i64 3,.int .i64 1,.slice none 0 0]
theorem Ybf {w:World} {b:Nat} (h:w.heap[b]?=some (.cells exC 104 (0,0))):Zbp (fun k=>k=b) w exA (.agg #[.int .i64 5,.int .i64 0,.slice (some ⟨b,0,none⟩) 2 2]):=by
 refine⟨_,_,rfl,by unfold okI;omega,by unfold okI;omega,by omega,fun k hk=>?_⟩;have hc:∀ j u,exC[j]?=some u->w.cell? ⟨b,j,none⟩=some u:=fun j u hj=>by rw[cell_of_row _ _ j _ _ _ h];exact hj
 rcases(show k=0\/k=1 by omega) with rfl|rfl
 ·
  exact⟨b,0,_,_,_,rfl,rfl,hc _ _ rfl,hc _ _ rfl,hc _ _ rfl,_,_,rfl,by unfold okI;omega,by unfold okI;omega,by omega,fun j hj=>by omega⟩
 ·
  exact⟨b,0,_,_,_,rfl,rfl,hc _ _ rfl,hc _ _ rfl,hc _ _ rfl,_,_,rfl,by unfold okI;omega,by unfold okI;omega,by omega,fun j hj=>by omega⟩
abbrev L14 (w:World) (mb:Nat) (fs:List (Int×BF)) (nx:Int) (W:World):Prop:=StG Zkg 2 400 w mb fs nx [] W
def l14A:List (Int×BF):=two++[(2,varF 1)]
def l14B:List (Int×BF):=l14A++[(3,fnT exA)]
def l14C:List (Int×BF):=l14B++[(4,Zfo (fnT exA) (varF 1))]
def l14D:List (Int×BF):=l14C++[(5,Zeq orF (Zbw 1) [])]
theorem Zuv:impF (fnT exA) (varF 1)=Zbw 0:=by
 funext ρ
 show iteB (fnT exA ρ) (ρ 1) true=true
 rw[Ybe];cases ρ 0<;>cases ρ 1<;>rfl
theorem Zxo:Zfo (fnT exA) (varF 1)=fun _=>false:=(Zq8 _ _).1 Zuv
theorem Zd5 (w:World):Calls Tryz.prog 67 #[] w fun x w'=>x=.returned (.bool true)/\Below w.heap.size w w':=by
 have HNEW:=Hd (Zre (K:=Zkg) 2 400 w (by omega) (by omega) (by omega));have HV:Hid (∀ mb W,L14 w mb two 2 W->Calls Tryz.prog 39 #[.pointer (some ⟨mb,0,none⟩),.int .i64 1] W fun x w''=>x=.returned (.tuple #[.int .i64 2,.int .i64 0])/\L14 w mb l14A 3 w'') :=
  Hd fun mb W g=>g.var Zbi (by omega) (by decide) (v:=1) (by omega)
 have HVR:=Hd (fun v W=>Zlo v W);have HOF:Hid (∀ mb W,L14 w mb l14A 3 W->∀ W2,W2=W.alloc (.cells exC 104)->Calls Tryz.prog 78 #[.pointer (some ⟨mb,0,none⟩),.agg #[.int .i64 5,.int .i64 0,.slice (some ⟨W.heap.size,0,none⟩) 2 2]] W2 fun x w''=>x=.returned (.tuple #[.int .i64 3,.int .i64 0])/\L14 w mb l14B 4 w'') :=
  Hd fun mb W ⟨o,m,V,h1,h2⟩ W2 hW2=>by
   have hb:Below W.heap.size W W2:=by rw[hW2];exact Zad _ _
   have hblk:W2.heap[W.heap.size]?=some (.cells exC 104 (0,0)):=by rw[hW2];exact heap_alloc_new _ _
   refine(Yb8 Zbi (h2.below hb) (by omega) (by rw[Zxp];omega) (Ybf hblk) (fun k hk=>by subst hk;exact⟨(Array.getElem?_eq_some_iff.1 hblk).1,h2.lt.none (Nat.le_refl _)⟩) Ybg h1 (by omega) (by decide)).mono ?_;rintro x w' ⟨_,h3⟩;obtain⟨q1,o',m',V',_,q2,q3⟩:=h3 (by rw[Zxq];simp);exact⟨q1,o',m',V',q2,q3⟩
 have HWI:Hid (∀ mb W,L14 w mb l14B 4 W->Calls Tryz.prog 77 #[.pointer (some ⟨mb,0,none⟩),.int .i64 3,.int .i64 2] W fun x w''=>x=.returned (.tuple #[.bool true,.int .i64 0])/\L14 w mb l14B 4 w'') :=
  Hd fun mb W ⟨o,m,V,h1,h2⟩=>(Zmd Zbi h2 (F1:=fnT exA) (F2:=varF 1) (by simp[l14B]) (by simp[l14B,l14A]) (b:=true) (by simp[Zuv]) h1 (by omega) (by decide)).mono (by
   rintro x w' ⟨q1,o',m',V',_,q2,q3⟩;exact⟨q1,o',m',V',q2,q3⟩)
 have HDI:Hid (∀ mb W,L14 w mb l14B 4 W->Calls Tryz.prog 149 #[.pointer (some ⟨mb,0,none⟩),.int .i64 3,.int .i64 2] W fun x w''=>x=.returned (.tuple #[.int .i64 4,.int .i64 0])/\L14 w mb l14C 5 w'') :=
  Hd fun mb W ⟨o,m,V,h1,h2⟩=>(Zri Zbi h2 (F1:=fnT exA) (F2:=varF 1) (by simp[l14B]) (by simp[l14B,l14A]) h1 (by omega) (by decide)).mono (by
   rintro x w' ⟨q1,o',m',V',_,q2,q3⟩;exact⟨q1,o',m',V',q2,q3⟩)
 have HOR:Hid (∀ mb W,L14 w mb l14C 5 W->Calls Tryz.prog 69 #[.pointer (some ⟨mb,0,none⟩),.slice none 0 0] W fun x w''=>x=.returned (.tuple #[.int .i64 5,.int .i64 0])/\L14 w mb l14D 6 w'') :=
  Hd fun mb W ⟨o,m,V,h1,h2⟩=>(Zv7 (c:=0) (a:=none) (ks:=[]) (Fs:=[]) Zbi h2 ⟨⟨by decide,fun i hi=>absurd hi (Nat.not_lt_zero i)⟩,(fun x hx=>by cases hx),rfl,fun i hi=>absurd hi (Nat.not_lt_zero i)⟩ h1 (by omega) (by decide)).mono (by
   rintro x w' ⟨q1,o',m',V',_,q2,q3⟩;exact⟨q1,o',m',V',q2,q3⟩)
 have HS4:Hid (∀ mb W,L14 w mb l14D 6 W->Calls Tryz.prog 41 #[.pointer (some ⟨mb,0,none⟩),.int .i64 4,.int .i64 0] W fun x w''=>x=.returned (.tuple #[.bool true,.int .i64 0])/\W=w'') :=
  Hd fun mb W g=>(g.same (k:=4) (l:=0) (F:=Zfo (fnT exA) (varF 1)) (G:=fun _=>false) (by simp[l14D,l14C]) (by simp[l14D,l14C,l14B,l14A,two])).mono (by
   rintro x w' ⟨⟨b,q1,q2⟩,q3⟩;rw[q1,q2.2 Zxo];exact⟨rfl,q3⟩)
 have HS5:Hid (∀ mb W,L14 w mb l14D 6 W->Calls Tryz.prog 41 #[.pointer (some ⟨mb,0,none⟩),.int .i64 5,.int .i64 0] W fun x w''=>x=.returned (.tuple #[.bool true,.int .i64 0])/\W=w'') :=
  Hd fun mb W g=>(g.same (k:=5) (l:=0) (F:=Zeq orF (Zbw 1) []) (G:=fun _=>false) (by simp[l14D]) (by simp[l14D,l14C,l14B,l14A,two])).mono (by
   rintro x w' ⟨⟨b,q1,q2⟩,q3⟩;rw[q1,q2.2 (by funext ρ;rfl)];exact⟨rfl,q3⟩)
 have HHN:Hid (∀ mb W,L14 w mb l14D 6 W->Calls Tryz.prog 89 #[.pointer (some ⟨mb,0,none⟩)] W fun x w''=>x=.returned (.int .i64 6)/\W=w'') :=
  Hd fun mb W g=>g.handles
 go_enter Tryz.func67,Tryz.ntmps67
 go_wp2_with fail;refine HNEW.out.mono ?_;rintro x w1 ⟨mb,rfl,o,m,V,hst,hwt,_,hmn⟩;have H1:=Hd (HV.out mb w1 ⟨o,m,V,by rw[hwt];exact List.suffix_refl _,hst⟩);clear hst hwt hmn HNEW HV;go_wp2_with fail;refine H1.out.mono ?_;rintro x w2 ⟨rfl,h2⟩;have H2:=Hd h2;clear h2 H1;go_wp2_with fail;refine(HVR.out 0 _).mono ?_;rintro x w3 ⟨rfl,hb3⟩;have H3:=Hd (H2.out.below hb3);clear hb3 H2;go_wp2_with fail;refine(HVR.out 1 _).mono ?_;rintro x w4 ⟨rfl,hb4⟩;have H4:=Hd (H3.out.below hb4);clear hb4 H3 HVR;have HO:=Hd (HOF.out _ _ H4.out _ rfl);clear HOF;unfold exC at HO;go_wp2_with fail;refine HO.out.mono ?_;rintro x w5 ⟨rfl,h5⟩;have H5:=Hd (HWI.out _ _ h5);clear h5 HO H4 HWI;go_wp2_with fail;refine H5.out.mono ?_;rintro x w6 ⟨rfl,h6⟩;have H6:=Hd (HDI.out _ _ h6);clear h6 H5 HDI;go_wp2_with fail;refine H6.out.mono ?_;rintro x w7 ⟨rfl,h7⟩;have H7:=Hd (HOR.out _ _ h7);clear h7 H6 HOR;go_wp2_with fail;refine H7.out.mono ?_;rintro x w8 ⟨rfl,h8⟩;have H8:=Hd h8;have H8a:=Hd (HS4.out _ _ h8);have H8b:=Hd (HS5.out _ _ h8);have H8c:=Hd (HHN.out _ _ h8);clear h8 H7 HS4 HS5 HHN;go_wp2_with fail;refine H8a.out.mono ?_;rintro x w' ⟨rfl,rfl⟩;go_wp2_with fail;refine H8b.out.mono ?_;rintro x w' ⟨rfl,rfl⟩;go_wp2_with fail;refine H8c.out.mono ?_;rintro x w' ⟨rfl,rfl⟩;go_wp2_with fail;go_ret;exact⟨rfl,H8.out.below0⟩
open Go.RowKit
theorem Zp5 {k:Nat} (hk:k<256):IntKind.i64.wrap ((k:Nat):Int)=(k:Int):=by
 simp[IntKind.wrap,IntKind.bits];omega
theorem Zrl {n:Nat} {fs:List (Int×BF)} {w:World} (hn:n<=16) (h0:(0,fun _=>false)∈fs) (h1:(1,fun _=>true)∈fs) {vl vx:Value} {hs:List (Int×BF)} {P:Nat->Prop} (hr:LawR P n fs w vl vx hs) (k:Nat) (hk:k<256) :
 Calls Tryz.prog 37 #[vl,vx,.int .i64 n,.int .u8 k] w fun x w'=>∃ a F v,x=.returned (.tuple #[.int .i64 a,v])/\(a,F)∈fs/\Zbu w' v (tabB n F)/\(∀ g,v.ownBlock=some g->P g\/w.heap.size<=g/\∃ cur,w'.heap[g]?=some (.cells cur 4 (0,0)))/\Below w.heap.size w w':=by
 obtain⟨al,cl,rfl,hl⟩:=hr.l;obtain⟨ax,cx,rfl,hx⟩:=hr.x;have hsm:=hr.small;have HSUB:=Hd hr.sub;obtain⟨L,hL⟩:∃ L,L=hs.length:=⟨_,rfl⟩;have HLL:=Hd hL;rw[<- hL] at hsm ⊢;clear hr;obtain⟨i,hi,hI⟩:∃ i,i<L+2/\Int.tmod (k:Int) ((L:Int)+2)=((i:Nat):Int):=by
  refine⟨(Int.tmod (k:Int) ((L:Int)+2)).toNat,?_,?_⟩
  ·
   have:=Int.tmod_lt_of_pos (k:Int) (show (0:Int)<(L:Int)+2 by omega);have:=Int.tmod_nonneg ((L:Int)+2) (show (0:Int)<=(k:Int) by omega);omega
  ·
   have:=Int.tmod_nonneg ((L:Int)+2) (show (0:Int)<=(k:Int) by omega);omega
 have hcv:=Zp5 hk;have hne:(((L:Int)+2) == 0)=false:=by simp;omega
 by_cases hz:L<=i
 ·
  have hiz:(i:Int)>=(L:Int):=by omega
  obtain⟨b,hb⟩:∃ b:Bool,b=decide ((i:Int)>(L:Int)):=⟨_,rfl⟩;have hmem:(((i:Int)-(L:Int)),fun _=>b)∈fs:=by
   rcases(show i=L\/i=L+1 by omega) with rfl|rfl
   ·
    rw[hb,decide_eq_false (by omega),Int.sub_self];exact h0
   ·
    rw[hb,decide_eq_true (by omega),show ((L+1:Nat):Int)-(L:Int)=1 by omega];exact h1
  have HM:=Hd hmem;have HC:=Hd (Zje b n hn w);have hp:2^n<=65536:=Nat.pow_le_pow_right (by omega) hn;have hgt:decide ((i:Int)>(L:Int))=b:=hb.symm;have hgt2:decide ((L:Int)<(i:Int))=b:=hb.symm;have hgt3:decide (L<i)=b:=by rw[hb];simp
  obtain⟨D,hD⟩:∃ D,D=(i:Int)-(L:Int):=⟨_,rfl⟩;have hwr:IntKind.i64.wrap ((i:Int)-(L:Int))=D:=by
   rw[hD];simp[IntKind.wrap,IntKind.bits];omega
  have HD:=Hd hD;clear hL hl hx h0 h1 hmem hb hz hD
  go_enter Tryz.func37,Tryz.ntmps37
  go_wp2_with fail;refine HC.out.mono ?_;rintro x w1 ⟨g,rfl,hown,hb⟩;have HF:Hid (∃ a F v,Ending.returned (.tuple #[.int .i64 D,.slice (some ⟨g,0,none⟩) (2^n) (2^n)])=.returned (.tuple #[.int .i64 a,v])/\(a,F)∈fs/\Zbu w1 v (tabB n F)/\(∀ g,v.ownBlock=some g->P g\/w.heap.size<=g/\∃ cur,w1.heap[g]?=some (.cells cur 4 (0,0)))/\Below w.heap.size w w1) :=
   Hd ⟨_,fun _=>b,_,rfl,by rw[HD.out];exact HM.out,hown.boolsIs (by rw[Zbg];omega),fun q hq=>.inr ⟨by cases hq;exact(hown.lt g rfl).1,hown.typed q hq⟩,hb⟩
  clear hown hb HC HM;go_wp2_with fail
  go_ret2
  exact HF.out
 ·
  have hil:i<L:=by omega
  have hiz:¬ (i:Int)>=(L:Int):=by omega
  obtain⟨b1,of1,rfl,c1⟩:=hl.cells i (by simp;omega);obtain⟨b2,of2,v2,rfl,c2,hv2,hp2⟩:=hx.cells i (by simp;omega);have hil2:i<hs.length:=by omega
  have q1:at0 (hs.map Prod.fst) i=hs[i].1:=by rw[Zci (by simpa using hil2)];simp
  have q2:(hs.map fun p=>tabB n p.2).getD i []=tabB n hs[i].2:=by simp[List.getD,hil2]
  rw[q1] at c1;rw[q2] at hv2;have HF:Hid (∀ w',Below w.heap.size w w'->∃ a F v,Ending.returned (.tuple #[.int .i64 hs[i].1,v2])=.returned (.tuple #[.int .i64 a,v])/\(a,F)∈fs/\Zbu w' v (tabB n F)/\(∀ g,v.ownBlock=some g->P g\/w.heap.size<=g/\∃ cur,w'.heap[g]?=some (.cells cur 4 (0,0)))/\Below w.heap.size w w') :=
   Hd fun w' hb=>⟨hs[i].1,hs[i].2,v2,rfl,HSUB.out _ (List.getElem_mem hil2),hv2.below hb,fun g hg=>.inl (hp2 g hg),hb⟩
  obtain⟨k1,hk1⟩:∃ k1,k1=hs[i].1:=⟨_,rfl⟩;rw[<- hk1] at c1 HF;clear hL hl hx hv2 hp2 q1 q2 hk1 hz hil2 h0 h1
  go_enter Tryz.func37,Tryz.ntmps37
  go_upto_region 4 with fail;refine Zap (fun W:World=>W.cell? ⟨b1,of1+i,none⟩=some (.int .i64 k1)/\W.cell? ⟨b2,of2+i,none⟩=some v2) false 10 [(0,false),(1,false),(2,false),(3,false),(4,false),(5,false),(6,false),(7,false),(8,false),(9,false)] (by kernel_rfl) (by kernel_rfl) ⟨c1,c2⟩ ?_;simp only[planned,Zdf]
  iterate 10
   refine Zaq rfl ?_;apply Exists.intro;refine⟨fun w' hw=>?_,?_⟩
   ·
    obtain⟨h1,h2⟩:=hw;go_simp;rfl
   simp only[Zag]
  refine Zes ?_;go_wp2_with fail
  go_ret2
  exact HF.out _ (Zae w 1)
section
variable {K:Law} {n:Nat} {Od:List Nat->Prop} {room:Nat} {w0:World} {mb:Nat} {fs:List (Int×BF)} {nx:Int} {Wt:List Ev->Int->Prop} {hs:List (Int×BF)} {W:World} {o:Own} {m:ManD} {V:Nat->BF} {vl vx:Value}
theorem Zjt (h:LawT K n Od room w0 mb fs nx Wt hs hs W o m V vl vx) (hsub:∀ p∈hs,p∈fs) (hn:n<=16) (hl:hs.length<=100) (k:Nat) (hk:k<256) :
 Calls Tryz.prog 37 #[vl,vx,.int .i64 n,.int .u8 k] W fun x w'=>∃ a F v,x=.returned (.tuple #[.int .i64 a,v])/\(a,F)∈fs/\LawF w' o v (tabB n F)/\Below W.heap.size W w':=by
 refine(Zrl hn h.b2.zero h.b2.one (h.row hsub (by omega)) k hk).mono ?_;rintro x w' ⟨a,F,v,rfl,h1,h2,h3,h4⟩;refine⟨a,F,v,rfl,h1,⟨h2,fun g hg=>?_⟩,h4⟩;rcases h3 g hg with ⟨_,h6,h7,cur,h8⟩|⟨h5,cur,h6⟩
 ·
  exact⟨Nat.lt_of_lt_of_le h6 h4.size,h7,cur,(h4.block g h6).trans h8⟩
 ·
  exact⟨(Array.getElem?_eq_some_iff.1 h6).1,h.sat.lt.none h5,cur,h6⟩
end
open Go.RowKit
section
variable {P:Program} {ops:Array Oper} {S:World->Prop} {Q:Exit->Act->World->Prop} {last:Bool}
end
section
variable {K:Law} {n:Nat} {Od:List Nat->Prop} {room:Nat} {w0:World} {mb:Nat} {fs hs hl hx:List (Int×BF)} {nx:Int} {Wt:List Ev->Int->Prop} {W w w':World} {o o':Own} {m m':ManD} {V V':Nat->BF} {vl vx:Value}
end
open Go.RowKit
theorem rem3 (z:Nat):∃ j:Nat,j<3/\Int.tmod ((z:Nat):Int) 3=((j:Nat):Int):=⟨z%3,Nat.mod_lt _ (by omega),by rw[Int.tmod_eq_emod_of_nonneg (by omega)];omega⟩
theorem Zjm (p:Prop):∃ b:Bool,b=true↔p:=by
 classical
 exact⟨decide p,by simp⟩
theorem SatE.dep {K:Law} {n:Nat} {Od:List Nat->Prop} {room:Nat} {w0 w:World} {mb:Nat} {fs:List (Int×BF)} {nx:Int} {o:Own} {m:ManD} {V:Nat->BF} (h:SatE K n Od room w0 mb fs nx w o m V) {k:Int} {F:BF} (hk:(k,F)∈fs):DepF n F:=by
 obtain⟨f,hf,rfl⟩:=h.find hk;have:=h.ok.store.dep (h.ok.handles.ok _ hf)
 rwa [h.vars] at this
theorem Zie {n l r:Nat} (h:l+r<=192) {k:Nat} (hk:k<=r*2^n):l*2^n+k<=Zck n:=by
 have h1:=Zeu (n:=n) h;rw[Nat.add_mul] at h1;omega
theorem Zyi {n:Nat} {hs fs:List (Int×BF)} (_:n<=6) (hf:fs.length=2+hs.length) (hl:hs.length<=5):fs.length*2^n+(2^n-1)<=Zck n:=Zie (r:=1) (by omega) (by omega)
theorem Zpj {n:Nat} {hs fs:List (Int×BF)} {p:Int×BF} (_:n<=6) (hf:fs.length=2+hs.length) (hl:hs.length<=5):(fs++[p]).length*2^n+(2^n-1)<=Zck n:=Zie (r:=1) (by simp;omega) (by omega)
open Go.RowKit
structure Zt2 (w:World) (a:Option Addr) (zs:List Nat):Prop where
 len:zs.length<=9223372036854775807
 cells:∀ k,k<zs.length->∃ b off,a=some ⟨b,off,none⟩/\w.cell? ⟨b,off+k,none⟩=some (.int .u8 (zs.getD k 0:Nat))/\zs.getD k 0<256
theorem Zt2.below {w w':World} {a:Option Addr} {zs:List Nat} (h:Zt2 w a zs) (hb:Below w.heap.size w w'):Zt2 w' a zs :=
 ⟨h.len,fun k hk=>by
  obtain⟨b,off,h1,h2,h3⟩:=h.cells k hk;exact⟨b,off,h1,(hb.cell (p:=⟨b,off+k,none⟩) (Zaa h2)).trans h2,h3⟩⟩
theorem LawR.tabs {P:Nat->Prop} {n:Nat} {fs:List (Int×BF)} {w:World} {vl vx:Value} {hs:List (Int×BF)} (h:LawR P n fs w vl vx hs):∃ a c,vx=.slice a hs.length c/\Zi3 n w a (hs.map Prod.snd):=by
 obtain⟨a,c,e,h1⟩:=h.x;refine⟨a,c,e,by simpa using h.small,fun i hi=>?_⟩;have hi2:i<hs.length:=by simpa using hi
 obtain⟨b,off,v,h2,h3,h4,_⟩:=h1.cells i (by simpa using hi);refine⟨b,off,v,h2,h3,?_⟩;rw[show (hs.map fun p=>tabB n p.2).getD i []=tabB n hs[i].2 by simp[List.getD,hi2]] at h4;have:=TabA.is h4;simpa using this
section
variable {K:Law} {n:Nat} {Od:List Nat->Prop} {room:Nat} {w0:World} {mb:Nat} {fs:List (Int×BF)} {nx:Int} {Wt:List Ev->Int->Prop} {hs:List (Int×BF)} {W:World} {o:Own} {m:ManD} {V:Nat->BF} {vl vx:Value}
theorem Zwb (h:LawT K n Od room w0 mb fs nx Wt hs hs W o m V vl vx) (hsub:∀ p∈hs,p∈fs) (hn:n<=16) (hl:hs.length<=100) (k:Nat) (hk:k<256) :
 Calls Tryz.prog 37 #[vl,vx,.int .i64 n,.int .u8 k] W fun x w'=>∃ a F v,x=.returned (.tuple #[.int .i64 a,v])/\(a,F)∈fs/\LawB w' o w0.heap.size v (tabB n F)/\Below W.heap.size W w':=by
 refine(Zrl hn h.b2.zero h.b2.one (h.row hsub (by omega)) k hk).mono ?_;rintro x w' ⟨a,F,v,rfl,h1,h2,h3,h4⟩;have hsz:=h.sat.chg.size;refine⟨a,F,v,rfl,h1,⟨h2,fun g hg=>?_⟩,h4⟩;rcases h3 g hg with ⟨h5,h6,h7,cur,h8⟩|⟨h5,cur,h6⟩
 ·
  exact⟨h5,Nat.lt_of_lt_of_le h6 h4.size,h7,cur,(h4.block g h6).trans h8⟩
 ·
  exact⟨by omega,(Array.getElem?_eq_some_iff.1 h6).1,h.sat.lt.none h5,cur,h6⟩
end
def StF (K:Law) (n room:Nat) (w0:World) (mb:Nat) (fs:List (Int×BF)) (nx:Int) (ws0:List Ev) (rs:List (Value×BF)) (W:World):Prop:=∃ o m V,m.waits <:+ ws0/\SatE K n (fun _=>True) room w0 mb fs nx W o m V/\∀ p∈rs,LawF W o p.1 (tabB n p.2)
section
variable {K:Law} {n room:Nat} {w0 w W w':World} {mb:Nat} {fs fs':List (Int×BF)} {nx nx':Int} {o:Own} {m:ManD} {V:Nat->BF} {ws0:List Ev} {rs:List (Value×BF)} {f:Nat} {args:Array Value}
theorem StF.below (h:StF K n room w0 mb fs nx ws0 rs w) (hb:Below w.heap.size w w'):StF K n room w0 mb fs nx ws0 rs w':=by
 obtain⟨o,m,V,h1,h2,h3⟩:=h;exact⟨o,m,V,h1,h2.below hb,fun p hp=>(h3 p hp).chg (Zbm hb o)⟩
theorem StF.below0 (h:StF K n room w0 mb fs nx ws0 rs w):Below w0.heap.size w0 w:=by
 obtain⟨o,m,V,h1,h2,_⟩:=h;exact h2.chg.below0
theorem StF.go {R:Ending->Prop} (h:StF K n room w0 mb fs nx ws0 rs w) (hc:∀ o m V,m.waits <:+ ws0->SatE K n (fun _=>True) room w0 mb fs nx w o m V->Calls Tryz.prog f args w fun x w'=>R x/\Goes K n (fun _=>True) room w0 mb fs' nx' (W2 (SufW ws0)) o w w') :
 Calls Tryz.prog f args w fun x w'=>R x/\StF K n room w0 mb fs' nx' ws0 rs w':=by
 obtain⟨o,m,V,h1,h2,h3⟩:=h;refine(hc o m V h1 h2).mono ?_;rintro x w' ⟨q1,o',m',V',q2,q3,q4⟩;exact⟨q1,o',m',V',q3,q4,fun p hp=>(h3 p hp).chg q2⟩
theorem StF.ask {R:Ending->World->Prop} (h:StF K n room w0 mb fs nx ws0 rs w) (hc:∀ o m V,SatE K n (fun _=>True) room w0 mb fs nx w o m V->Calls Tryz.prog f args w R):Calls Tryz.prog f args w R:=by
 obtain⟨o,m,V,_,h2,_⟩:=h;exact hc o m V h2
theorem StF.tab (h:StF K n room w0 mb fs nx ws0 rs w) {r:Value} {F:BF} (hp:(r,F)∈rs):TabA n w r F:=by
 obtain⟨o,m,V,_,_,h3⟩:=h;exact(h3 _ hp).tab
theorem StF.dep (h:StF K n room w0 mb fs nx ws0 rs w) {k:Int} {F:BF} (hk:(k,F)∈fs):DepF n F:=by
 obtain⟨o,m,V,_,h2,_⟩:=h;exact h2.dep hk
theorem StF.of (hw:m.waits <:+ ws0) (h:SatE K n (fun _=>True) room w0 mb fs nx w o m V) (hr:∀ p∈rs,LawF w o p.1 (tabB n p.2)):StF K n room w0 mb fs nx ws0 rs w:=⟨o,m,V,hw,h,hr⟩
theorem Zxe (h:SatE K n (fun _=>True) room w0 mb fs nx w o m V) {ks:List Int} {Fs:List BF} (hl:ks.length<=1000000) (hlen:Fs.length=ks.length) (hm:∀ i (h:i<ks.length),(ks[i],Fs[i]'(by omega))∈fs):ArgL fs w0 (w.alloc (.cells (Zbb ks).toArray 3)) o (some ⟨w.heap.size,0,none⟩) ks Fs :=
 ⟨Zl0 w ks hl,fun x hx=>by cases hx;exact⟨by simp,h.chg.size,h.lt.none (Nat.le_refl _)⟩,hlen,hm⟩
theorem StF.join14 (hK:Zbo K) (h:StF K n room w0 mb fs nx ws0 rs w) {j:Nat} (hj:j<3) {ks:List Int} {Fs:List BF} (hl:ks.length<=1000) (hlen:Fs.length=ks.length) (hm:∀ i (h:i<ks.length),(ks[i],Fs[i]'(by omega))∈fs) (hn:nx<=549755813888) (hr:fs.length*2^n+ks.length*(2^n-1)<=room) {T:World} (hT:T=w.alloc (.cells (Zbb ks).toArray 3)) (hf:f=if j=0 then 45 else if j=1 then 69 else 70) :
 Calls Tryz.prog f #[.pointer (some ⟨mb,0,none⟩),.slice (some ⟨w.heap.size,0,none⟩) ks.length ks.length] T fun x w'=>x=.returned (.tuple #[.int .i64 nx,.int .i64 0])/\StF K n room w0 mb (fs++[(nx,Zbf j Fs)]) (nx+1) ws0 rs w':=by
 subst hT;have hb:=Zad w (.cells (Zbb ks).toArray 3);obtain⟨o,m,V,h1,h2,h3⟩:=h;have hs:=h2.below hb;have ha:=Zxe h2 (by omega) hlen hm;have hcc:Calls Tryz.prog f #[.pointer (some ⟨mb,0,none⟩),.slice (some ⟨w.heap.size,0,none⟩) ks.length ks.length] (w.alloc (.cells (Zbb ks).toArray 3)) (NewF K n room w0 mb fs nx ws0 (Zbf j Fs) o (w.alloc (.cells (Zbb ks).toArray 3))):=by
  subst hf;rcases(show j=0\/j=1\/j=2 by omega) with rfl|rfl|rfl
  ·
   exact Zv5 hK hs ha h1 hn hr
  ·
   exact Zv7 hK hs ha h1 hn hr
  ·
   exact Zv8 hK hs ha h1 hn hr
 refine hcc.mono ?_;rintro x w' ⟨q1,o',m',V',q2,q3,q4⟩;exact⟨q1,o',m',V',q3,q4,fun p hp=>((h3 p hp).chg (Zbm hb o)).chg q2⟩
theorem SatE.goes0 (h:SatE K n (fun _=>True) room w0 mb fs nx w o m V) (hw:m.waits <:+ ws0):Goes K n (fun _=>True) room w0 mb fs nx (W2 (SufW ws0)) o w w:=⟨o,m,V,ChgX.of_below (Below.refl _ _) o NoB,hw,h⟩
theorem Znj (h:StF K n room w0 mb fs nx ws0 rs w) {k l:Int} {F G:BF} {b:Bool} (hf:(k,F)∈fs) (hg:(l,G)∈fs) (hb:b=true↔F=G):Calls Tryz.prog 41 #[.pointer (some ⟨mb,0,none⟩),.int .i64 k,.int .i64 l] w fun x w'=>x=.returned (.tuple #[.bool b,.int .i64 0])/\w=w' :=
 h.ask fun o m V hs=>(Zkj hs hf hg).mono fun x w' ⟨b',q1,q2,q3⟩=>by
  obtain rfl:b'=b:=Bool.eq_iff_iff.2 (q2.trans hb.symm);exact⟨q1,q3⟩
end
end Go.Proofs.YtkngbkjiepalfaaGreat

namespace Go.Proofs.YtkngbkjiepalfaaGreat
open Go.RowKit Go.Deep Go.ChangeShapes Go.WideShapes
theorem Zrx {x:Int} (h:(Lit.int .u8 x).wf=true):∃ k:Nat,x=(k:Int)/\k<256:=by
 simp only[Lit.wf,IntKind.min,IntKind.max,IntKind.signed,IntKind.bits,Bool.and_eq_true,decide_eq_true_eq] at h;simp at h;exact⟨x.toNat,by omega,by omega⟩
section
variable {H:Type} {enc:TypeId×Value->H} {P:Program} {w:World} {base:Nat} {spare:Nat->Bool} {held:Bool}
theorem Zq0 {t e:TypeId} {fuel:Nat} {c0 c1:Value} {x:DataW H×List MemPlace} (ht:P.underlying t=some (.array 2 e)) (hce:P.cellsOf e=1)
 (h:DataW.trod enc P w base spare held fuel t [c0,c1]=some x) :
 ∃ y0 y1 n,DataW.trod enc P w base spare held n e [c0]=some y0/\DataW.trod enc P w base spare held n e [c1]=some y1:=by
 cases fuel with
 | zero=>simp[DataW.trod] at h
 | succ n =>
   unfold DataW.trod at h;rw[ht] at h;have r2:List.range 2=[0,1]:=rfl;simp[r2,hce] at h;obtain⟨_,h⟩:=h;cases h0:DataW.trod enc P w base spare held n e [c0] with
   | none=>simp[h0] at h
   | some y0 =>
     cases h1:DataW.trod enc P w base spare held n e [c1] with
     | none=>simp[h0,h1] at h
     | some y1=>exact⟨y0,y1,n,h0,h1⟩
end
theorem open_u8 {H:Type} {enc:TypeId×Value->H} {w:World} {base b0:Nat} {spare:Nat->Bool} {held:Bool} {r:Reach} {v:Value} {d:DataW H} {ps:List MemPlace} (hval:Value.okWide Tryz.prog w r b0 5 v) (hd:DataW.Trod enc Tryz.prog w base spare held 5 v d ps) :
 ∃ k:Nat,k<256/\v=.int .u8 k/\d=.lit (.int .u8 k)/\ps=[]/\(Lit.int .u8 (k:Int)).wf=true:=by
 obtain⟨n,rfl,rfl,rfl,hw⟩:=open_int Tryz.underlying5 hval hd;obtain⟨k,rfl,hk⟩:=Zrx hw;exact⟨k,hk,rfl,rfl,rfl,hw⟩
theorem open_a2u8 {H:Type} {enc:TypeId×Value->H} {w:World} {base b0:Nat} {spare:Nat->Bool} {held:Bool} {r:Reach} {v:Value} {d:DataW H} {ps:List MemPlace} (hval:Value.okWide Tryz.prog w r b0 51 v) (hd:DataW.Trod enc Tryz.prog w base spare held 51 v d ps) :
 ∃ p0 p1:Nat,p0<256/\p1<256/\v=.agg #[.int .u8 p0,.int .u8 p1]:=by
 obtain⟨cs,rfl,hsz⟩:∃ cs,v=.agg cs/\cs.size=Tryz.prog.cellsOf 51:=by
  have h:=hval;simp[Value.okWide,Tryz.underlying51] at h;obtain⟨cs,h1,h2,_⟩:=h;exact⟨cs,h1,h2⟩
 rw[show Tryz.prog.cellsOf 51=2 by kernel_rfl] at hsz;obtain⟨l⟩:=cs
 match l,hsz with
 | [c0,c1],_ =>
   obtain⟨fuel,hf⟩:=hd;obtain⟨y0,y1,m,hy0,hy1⟩:=Zq0 Tryz.underlying51 (by kernel_rfl) hf;obtain⟨x0,e0,rfl,w0⟩:=DataW.trod_int Tryz.underlying5 hy0;obtain⟨x1,e1,rfl,w1⟩:=DataW.trod_int Tryz.underlying5 hy1;simp at e0 e1;subst e0 e1;obtain⟨p0,rfl,h0⟩:=Zrx w0;obtain⟨p1,rfl,h1⟩:=Zrx w1;exact⟨p0,p1,h0,h1,rfl⟩
theorem open_u8s {H:Type} {enc:TypeId×Value->H} {w:World} {base b0:Nat} {spare:Nat->Bool} {held:Bool} {r:Reach} {v:Value} {d:DataW H} {ps:List MemPlace} (hval:Value.okWide Tryz.prog w r b0 113 v) (hd:DataW.Trod enc Tryz.prog w base spare held 113 v d ps) :
 ∃ (a:Option Addr) (zs:List Nat) (c:Nat),v=.slice a zs.length c/\Zt2 w a zs:=by
 obtain⟨a,len,cap,rfl⟩:=okWide_slice Tryz.underlying113 hval;obtain⟨fuel,hf⟩:=hd;rcases open_ints Tryz.underlying113 Tryz.underlying5 (by kernel_rfl) hf with ⟨hcs,_⟩|⟨x,l,c,zs,hcs,_,hl,hm,hz,_,hcell,hwz⟩
 ·
  simp[Value.cells] at hcs;obtain⟨rfl,rfl,rfl⟩:=hcs;exact⟨none,[],0,rfl,by simp,fun k hk=>by simp at hk⟩
 ·
  simp[Value.cells] at hcs;obtain⟨rfl,rfl,rfl⟩:=hcs;have hlz:len<=zs.length:=by rw[hz];split<;>omega
  refine⟨some x,(zs.take len).map Int.toNat,cap,by simp;omega,by simp;unfold maxLen at hm;omega,fun k hk=>?_⟩;have hk2:k<len:=by simp at hk;omega
  have hkz:k<zs.length:=by omega
  obtain⟨q,hq,hq2⟩:=Zrx (hwz _ (List.getElem_mem hkz));have hg:((zs.take len).map Int.toNat).getD k 0=q:=by
   simp[List.getD,hk2,hkz,hq]
  have hc:=hcell k hkz;rw[show zs.getD k 0=(q:Int) by simp[List.getD,hkz,hq]] at hc;have hs:x.spot=none:=by
   have h0:=hcell 0 (by omega);obtain⟨b,off,spot⟩:=x;cases spot with
   | none=>rfl
   | some s =>
     simp[Addr.add,World.cell?] at h0;split at h0<;>simp at h0
  obtain⟨b,off,spot⟩:=x;simp at hs;subst hs;refine⟨b,off,rfl,?_,by rw[hg];exact hq2⟩;rw[hg,<- hc];congr 1;unfold Addr.add;split<;>simp_all
end Go.Proofs.YtkngbkjiepalfaaGreat

namespace Go.Proofs.YtkngbkjiepalfaaGreat
open Go.RowKit Go.Deep Go.ChangeShapes Go.WideShapes
theorem wfI {x:Int} (h:(Lit.int .i64 x).wf=true):okI x:=by
 unfold okI;simp only[Lit.wf,IntKind.min,IntKind.max,IntKind.signed,IntKind.bits,Bool.and_eq_true,decide_eq_true_eq,if_true] at h;omega
theorem Zmi {b off:Nat} (k:Nat):(⟨b,off,none⟩:Addr).add k=⟨b,off+k,none⟩:=by unfold Addr.add;split<;>simp_all
theorem add0 (a:Addr):a.add 0=a:=by simp[Addr.add]
theorem Zgc {w:World} {a:Addr} {v:Value} (h:w.cell? a=some v):a.spot=none:=by
 obtain⟨b,off,spot⟩:=a;cases spot with
 | none=>rfl
 | some s=>simp[World.cell?] at h;split at h<;>simp at h
theorem Zug {n:Nat} {p:Nat->Ev->Prop} (h:∀ i,i<n->∃ x,p i x):∃ f:Nat->Ev,∀ i,i<n->p i (f i):=by
 classical
 refine⟨fun i=>if hi:i<n then Classical.choose (h i hi) else ⟨0,0,0⟩,fun i hi=>?_⟩;simp only[dif_pos hi];exact Classical.choose_spec (h i hi)
theorem Zm4 {H:Type} {enc:TypeId×Value->H} {P:Program} {w:World} {base:Nat} {spare:Nat->Bool} {held:Bool} {t e:TypeId} {fuel:Nat} {cs:List Value} {x:DataW H×List MemPlace} (ht:P.underlying t=some (.slice e)) (h:DataW.trod enc P w base spare held fuel t cs=some x) :
 cs=[.slice none 0 0]\/∃ (a:Addr) (len cap n:Nat),cs=[.slice (some a) len cap]/\len<=cap/\cap<=maxLen/\fuel=n+1/\∀ i,i<len->∃ cs' y,w.cells? base (a.add (i*P.cellsOf e)) (P.cellsOf e)=some cs'/\DataW.trod enc P w base spare held n e cs'=some y:=by
 rcases DataW.trod_slice ht h with ⟨h0,_⟩|⟨a,len,cap,elems,rest,n,hn,e1,_,_,hl,hm,hlen,hel,_⟩
 ·
  exact .inl h0
 ·
  refine .inr ⟨a,len,cap,n,e1,hl,hm,hn,fun i hi=>?_⟩;have:=hel i hi;rw[List.getElem?_eq_getElem (by omega)] at this;obtain⟨cs',h1,h2⟩:=Option.bind_eq_some_iff.1 this;exact⟨cs',_,h1,h2⟩
theorem Zv4 {H:Type} {enc:TypeId×Value->H} {w:World} {base:Nat} {spare:Nat->Bool} {held:Bool}:∀ (fuel:Nat) {cs:List Value} {x:DataW H×List MemPlace},
 DataW.trod enc Tryz.prog w base spare held fuel 104 cs=some x->∃ e x0 x1 x2,cs=[x0,x1,x2]/\Zay w e (.agg #[x0,x1,x2]):=by
 intro fuel
 induction fuel using Nat.strongRecOn with
 | _ fuel IH =>
   intro cs x h;obtain⟨xs,k,hk,hxy,hcl,hxl,hf⟩:=DataW.trod_struct Tryz.underlying104 h;have c1:Tryz.prog.cellsOf 3=1:=by kernel_rfl
   have c2:Tryz.prog.cellsOf 36=1:=by kernel_rfl
   have c3:Tryz.prog.cellsOf 104=3:=by kernel_rfl
   rw[c3] at hcl
   match xs,hxl,cs,hcl with
   | [y0,y1,y2],_,[v0,v1,v2],_ =>
     have g0:=hf 0 _ rfl;have g1:=hf 1 _ rfl;have g2:=hf 2 _ rfl;simp[c1,c2] at g0 g1 g2;obtain⟨n0,e0,_,w0⟩:=DataW.trod_int Tryz.underlying3 g0;obtain⟨n1,e1,_,w1⟩:=DataW.trod_int Tryz.underlying3 g1;simp only[List.cons.injEq,and_true] at e0 e1;subst e0 e1;rcases Zm4 Tryz.underlying36 g2 with e2|⟨a,len,cap,n,e2,hl,hm,hkn,hx⟩
     ·
      simp only[List.cons.injEq,and_true] at e2;subst e2;exact⟨.mk n0 n1 0 (fun _=>.nil),_,_,_,rfl,by unfold Zay;exact⟨none,0,rfl,wfI w0,wfI w1,by omega,fun k hk=>by omega⟩⟩
     ·
      simp only[List.cons.injEq,and_true] at e2;subst e2;have each:∀ i,i<len->∃ q:ExT,∃ x0 x1 x2,w.cell? (a.add (i*3))=some x0/\w.cell? ((a.add (i*3)).add 1)=some x1/\w.cell? ((a.add (i*3)).add 2)=some x2/\Zay w q (.agg #[x0,x1,x2]):=by
       intro i hi;obtain⟨cs',y,h1,h2⟩:=hx i hi;rw[c3] at h1;obtain⟨_,hlen,hcell⟩:=World.cells?_some h1;obtain⟨e,x0,x1,x2,rfl,he⟩:=IH n (by omega) h2;have f0:=hcell 0 (by omega);have f1:=hcell 1 (by omega);have f2:=hcell 2 (by omega);rw[add0] at f0;exact⟨e,x0,x1,x2,by simpa using f0,by simpa using f1,by simpa using f2,he⟩
      obtain⟨q,hq⟩:=choose_lt each;refine⟨.mk n0 n1 len q,_,_,_,rfl,?_⟩;unfold Zay;refine⟨some a,cap,rfl,wfI w0,wfI w1,by unfold maxLen at hm;omega,fun i hi=>?_⟩;obtain⟨x0,x1,x2,f0,f1,f2,he⟩:=hq i hi;have hsp:a.spot=none:=by
       obtain⟨_,_,_,q0,_⟩:=hq 0 (by omega);have:=Zgc q0;simpa [Addr.add] using this
      obtain⟨b,off,spot⟩:=a;dsimp only at hsp;subst hsp;simp only[Zmi] at f0 f1 f2;exact⟨b,off,x0,x1,x2,rfl,f0,f1,f2,he⟩
theorem Zs9 {H:Type} {enc:TypeId×Value->H} {w:World} {base:Nat} {spare:Nat->Bool} {held:Bool} {fuel:Nat} {cs:List Value} {x:DataW H×List MemPlace}
 (h:DataW.trod enc Tryz.prog w base spare held fuel 36 cs=some x):∃ a l cap,cs=[.slice a l.length cap]/\Zjx w a l:=by
 have c3:Tryz.prog.cellsOf 104=3:=by kernel_rfl
 rcases Zm4 Tryz.underlying36 h with e2|⟨a,len,cap,n,e2,hl,hm,hkn,hx⟩
 ·
  exact⟨none,[],0,e2,⟨by simp,fun k hk=>by simp at hk⟩⟩
 ·
  subst e2;have each:∀ i,i<len->∃ q:ExT,∃ x0 x1 x2,w.cell? (a.add (i*3))=some x0/\w.cell? ((a.add (i*3)).add 1)=some x1/\w.cell? ((a.add (i*3)).add 2)=some x2/\Zay w q (.agg #[x0,x1,x2]):=by
   intro i hi;obtain⟨cs',y,h1,h2⟩:=hx i hi;rw[c3] at h1;obtain⟨_,hlen,hcell⟩:=World.cells?_some h1;obtain⟨e,x0,x1,x2,rfl,he⟩:=Zv4 n h2;have f0:=hcell 0 (by omega);have f1:=hcell 1 (by omega);have f2:=hcell 2 (by omega);rw[add0] at f0;exact⟨e,x0,x1,x2,by simpa using f0,by simpa using f1,by simpa using f2,he⟩
  obtain⟨q,hq⟩:=choose_lt each;refine⟨some a,(List.range len).map q,cap,by simp,⟨by unfold maxLen at hm;simp;omega,fun i hi=>?_⟩⟩;have hi':i<len:=by simpa using hi
  obtain⟨x0,x1,x2,f0,f1,f2,he⟩:=hq i hi';have hsp:a.spot=none:=by
   obtain⟨_,_,_,q0,_⟩:=hq 0 (by omega);have:=Zgc q0;simpa [Addr.add] using this
  obtain⟨b,off,spot⟩:=a;dsimp only at hsp;subst hsp;simp only[Zmi] at f0 f1 f2;exact⟨b,off,x0,x1,x2,rfl,f0,f1,f2,by simpa using he⟩
theorem open_evs {H:Type} {enc:TypeId×Value->H} {w:World} {base:Nat} {spare:Nat->Bool} {held:Bool} {fuel:Nat} {cs:List Value} {x:DataW H×List MemPlace}
 (h:DataW.trod enc Tryz.prog w base spare held fuel 37 cs=some x):∃ a l cap,cs=[.slice a l.length cap]/\EvsAt w a l/\(∀ ev∈l,okI ev.after/\okI ev.kind/\okI ev.level)/\(a=none->cap=0)/\l.length<=cap/\cap<=maxLen:=by
 have c1:Tryz.prog.cellsOf 3=1:=by kernel_rfl
 have c3:Tryz.prog.cellsOf 133=3:=by kernel_rfl
 rcases Zm4 Tryz.underlying37 h with e2|⟨a,len,cap,n,e2,hl,hm,hkn,hx⟩
 ·
  exact⟨none,[],0,e2,⟨by simp,fun k hk=>by simp at hk⟩,by simp,fun _=>rfl,by simp,by simp⟩
 ·
  subst e2;have each:∀ i,i<len->∃ q:Ev,w.cell? (a.add (i*3))=some (.int .i64 q.after)/\w.cell? ((a.add (i*3)).add 1)=some (.int .i64 q.kind)/\w.cell? ((a.add (i*3)).add 2)=some (.int .i64 q.level)/\okI q.after/\okI q.kind/\okI q.level:=by
   intro i hi;obtain⟨cs',y,h1,h2⟩:=hx i hi;rw[c3] at h1;obtain⟨_,hlen,hcell⟩:=World.cells?_some h1;obtain⟨xs,k,hk,hxy,_,hxl,hf⟩:=DataW.trod_struct Tryz.underlying133 h2
   match xs,hxl,cs',hlen with
   | [y0,y1,y2],_,[v0,v1,v2],_ =>
     have g0:=hf 0 _ rfl;have g1:=hf 1 _ rfl;have g2:=hf 2 _ rfl;simp[c1] at g0 g1 g2;obtain⟨n0,e0,_,w0⟩:=DataW.trod_int Tryz.underlying3 g0;obtain⟨n1,e1,_,w1⟩:=DataW.trod_int Tryz.underlying3 g1;obtain⟨n2,e2,_,w2⟩:=DataW.trod_int Tryz.underlying3 g2;simp only[List.cons.injEq,and_true] at e0 e1 e2;subst e0 e1 e2;have f0:=hcell 0 (by omega);have f1:=hcell 1 (by omega);have f2:=hcell 2 (by omega);rw[add0] at f0;exact⟨⟨n0,n1,n2⟩,by simpa using f0,by simpa using f1,by simpa using f2,wfI w0,wfI w1,wfI w2⟩
  obtain⟨q,hq⟩:=Zug each;refine⟨some a,(List.range len).map q,cap,by simp,⟨by unfold maxLen at hm;simp;omega,fun i hi=>?_⟩,?_,by simp,by simpa using hl,hm⟩
  ·
   have hi':i<len:=by simpa using hi
   obtain⟨f0,f1,f2,_⟩:=hq i hi';have hsp:a.spot=none:=by
    obtain⟨q0,_⟩:=hq 0 (by omega);have:=Zgc q0;simpa [Addr.add] using this
   obtain⟨b,off,spot⟩:=a;dsimp only at hsp;subst hsp;simp only[Zmi] at f0 f1 f2;exact⟨b,off,rfl,by simpa using f0,by simpa using f1,by simpa using f2⟩
  ·
   intro ev hev;obtain⟨i,hi,rfl⟩:=List.mem_map.1 hev;exact(hq i (by simpa using hi)).2.2.2
theorem open_ask {H:Type} {enc:TypeId×Value->H} {w:World} {base:Nat} {held:Bool} {fuel:Nat} {v:Value} {cs:Array Value} {x:DataW H×List MemPlace} (hv:v=.agg cs)
 (h:DataW.trod enc Tryz.prog w base (fun _=>true) held fuel 39 v.cells.toList=some x):∃ q ao ae ap co ce cp,v=askV q ao ae ap co ce cp/\AskAt w q ao ae ap/\(∀ ev∈q.plan,okI ev.after/\okI ev.kind/\okI ev.level)/\(ao=none->co=0)/\(ap=none->cp=0)/\q.plan.length<=cp/\cp<=maxLen:=by
 subst hv;obtain⟨xs,k,hk,hxy,hcl,hxl,hf⟩:=DataW.trod_struct Tryz.underlying39 h;have c1:Tryz.prog.cellsOf 3=1:=by kernel_rfl
 have c2:Tryz.prog.cellsOf 23=1:=by kernel_rfl
 have c4:Tryz.prog.cellsOf 36=1:=by kernel_rfl
 have c5:Tryz.prog.cellsOf 37=1:=by kernel_rfl
 have c3:Tryz.prog.cellsOf 39=4:=by kernel_rfl
 rw[c3] at hcl;obtain⟨cl⟩:=cs;simp only[Value.cells] at hcl hf
 match xs,hxl,cl,hcl with
 | [y0,y1,y2,y3],_,[v0,v1,v2,v3],_ =>
   have g0:=hf 0 _ rfl;have g1:=hf 1 _ rfl;have g2:=hf 2 _ rfl;have g3:=hf 3 _ rfl;simp[c1,c2,c4,c5] at g0 g1 g2 g3;obtain⟨n0,e0,_,w0⟩:=DataW.trod_int Tryz.underlying3 g0;simp only[List.cons.injEq,and_true] at e0;subst e0;obtain⟨ao,zs,co,e1,hio,hno⟩:∃ a zs c,v1=.slice a zs.length c/\Za4 w a zs/\(a=none->c=0):=by
    rcases open_ints Tryz.underlying23 Tryz.underlying3 (by kernel_rfl) g1 with ⟨hcs,_⟩|⟨x,l,c,zs,hcs,_,hl,hm,hz,_,hcell,hwz⟩
    ·
     simp at hcs;subst hcs;obtain⟨a,c,e,h1,h2⟩:=sliceIs_of_row (w:=w) (a:=none) (len:=0) (cap:=0) (.inl ⟨rfl,rfl,rfl,rfl⟩);exact⟨a,_,c,e,h1,h2⟩
    ·
     simp at hcs;subst hcs;obtain⟨a,c,e,h1,h2⟩:=sliceIs_of_row (w:=w) (.inr ⟨_,rfl,hl,hm,by simpa using hz,hcell,hwz⟩);exact⟨a,_,c,e,h1,h2⟩
   obtain⟨ae,es,ce,e2,hes⟩:=Zs9 g2;obtain⟨ap,evs,cp,e3,hev,hok,hnp,hlp,hmp⟩:=open_evs g3;simp only[List.cons.injEq,and_true] at e2 e3;subst e1 e2 e3;exact⟨⟨n0,zs,es,evs⟩,ao,ae,ap,co,ce,cp,rfl,⟨wfI w0,hio,hes,hev⟩,hok,hno,hnp,hlp,hmp⟩
end Go.Proofs.YtkngbkjiepalfaaGreat
