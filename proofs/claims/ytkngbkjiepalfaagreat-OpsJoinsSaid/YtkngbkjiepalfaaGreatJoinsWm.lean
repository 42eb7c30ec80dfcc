/- The walk of a law: JoinsW. -/
import Derived.Test.YtkngbkjiepalfaaGreatO8
set_option linter.unusedSimpArgs false
set_option linter.unusedVariables false
set_option linter.unusedSectionVars false
set_option linter.unnecessarySimpa false
set_option maxRecDepth 100000
set_option maxHeartbeats 8000000
namespace Go.Proofs.YtkngbkjiepalfaaGreat
open Go.RowKit
structure Ls2 (n:Nat) (fs:List (Int×BF)) (o:Own) (base:Nat) (w3:World) (i:Nat) (u v:Value) (W:World) (ps:List (Int×BF)):Prop where
 len:ps.length=i
 sub:∀ p∈ps,p∈fs
 l:LawL W o base u (ps.map Prod.fst)
 x:LawX W o base v (ps.map fun p=>tabB n p.2)
 bl:∀ k,u.ownBlock=some k->w3.heap.size<=k
 bx:∀ k,v.ownBlock=some k->w3.heap.size<=k
 b:Below w3.heap.size w3 W
theorem joins_walk (q:AskD) (ao ae ap:Option Addr) (co ce cp:Nat) (zo:Nat) (hzo:zo<256) (a8:Option Addr) (c8:Nat) (zs:List Nat) (w:World) (h:AskAt w q ao ae ap) (hz8:Zt2 w a8 zs) :
 Calls Tryz.prog 18 #[askV q ao ae ap co ce cp,.int .u8 zo,.slice a8 zs.length c8] w fun y w'=>y=.returned (.bool true)/\Below w.heap.size w w':=by
 have HSM:Hid (∀ W,Below w.heap.size w W->∀ u,u=askV q ao ae ap co ce cp->Calls Tryz.prog 28 #[u] W fun y w'=>∃ b,y=.returned (.bool b)/\(b=true->Zg6 q)/\Below W.heap.size W w'):=Hd fun W hb u hu=>by subst hu;exact Zk0 q ao ae ap co ce cp W (h.below hb)
 have HST:Hid (∀ W n,Below w.heap.size w W->Zg6 q->q.vars=(n:Nat)->∀ u,u=askV q ao ae ap co ce cp->Calls Tryz.prog 29 #[u] W (SetP Zkg q n W)):=Hd fun W n hb hs hn u hu=>by subst hu;exact Zkx Zbi q ao ae ap co ce cp W (h.below hb) hs n hn
 obtain⟨vars,hvars⟩:∃ z,z=q.vars:=⟨_,rfl⟩;have HV:=Hd hvars;obtain⟨plen,hplen⟩:∃ z,z=q.plan.length:=⟨_,rfl⟩;unfold askV at HSM HST ⊢;rw[<- hvars,<- hplen] at HSM HST ⊢;obtain⟨olen,holen⟩:∃ z,z=q.order.length:=⟨_,rfl⟩;obtain⟨elen,helen⟩:∃ z,z=q.es.length:=⟨_,rfl⟩;rw[<- holen,<- helen] at HSM HST ⊢;obtain⟨w1,hw1⟩:∃ w1,w1=w.alloc (.cells #[.int .i64 vars,.slice ao olen co,.slice ae elen ce,.slice ap plen cp] 39):=⟨_,rfl⟩;have HW1:Hid (_=w1):=Hd hw1.symm;have HB1:Hid (Below w.heap.size w w1):=by rw[hw1];exact Hd (Zad _ _)
 have hblk:w1.heap[w.heap.size]?=some (.cells #[.int .i64 vars,.slice ao olen co,.slice ae elen ce,.slice ap plen cp] 39 (0,0)):=by rw[hw1];exact heap_alloc_new _ _
 have d0:w1.cell? ⟨w.heap.size,0,none⟩=some (.int .i64 vars):=by rw[cell_of_row _ _ 0 _ _ _ hblk];rfl
 have d1:w1.cell? ⟨w.heap.size,1,none⟩=some (.slice ao olen co):=by rw[cell_of_row _ _ 1 _ _ _ hblk];rfl
 have d2:w1.cell? ⟨w.heap.size,2,none⟩=some (.slice ae elen ce):=by rw[cell_of_row _ _ 2 _ _ _ hblk];rfl
 have d3:w1.cell? ⟨w.heap.size,3,none⟩=some (.slice ap plen cp):=by rw[cell_of_row _ _ 3 _ _ _ hblk];rfl
 have HZ8:=Hd hz8;have hz8l:=hz8.len;clear h hw1 hblk hvars hplen holen helen hz8
 go_enter Tryz.func18,Tryz.ntmps18
 go_upto_region 1 with fail;rw[HW1.out];go_wp2_with fail;refine(HSM.out _ HB1.out _ rfl).mono ?_;rintro y w2 ⟨b,rfl,hb,hbel⟩;have HB:=Hd hb;have HBEL:=Hd (HB1.out.trans (hbel.mono HB1.out.size));have e0:=(hbel.cell (p:=⟨w.heap.size,0,none⟩) (Zaa d0)).trans d0;have e1:=(hbel.cell (p:=⟨w.heap.size,1,none⟩) (Zaa d1)).trans d1;have e2:=(hbel.cell (p:=⟨w.heap.size,2,none⟩) (Zaa d2)).trans d2;have e3:=(hbel.cell (p:=⟨w.heap.size,3,none⟩) (Zaa d3)).trans d3;have HLV:=Hd (Zd5 w2);clear hb hbel HSM d0 d1 d2 d3 HW1;cases b with
 | false =>
   go_wp2_with fail;refine HLV.out.mono ?_;rintro y w3 ⟨rfl,hb3⟩;have HB3:=Hd (HBEL.out.trans (hb3.mono HBEL.out.size));clear hb3;go_wp2_with fail;go_ret;exact⟨rfl,HB3.out⟩
 | true =>
   by_cases hlen:(zs.length:Int)>12
   ·
    go_wp2_with fail;refine HLV.out.mono ?_;rintro y w3 ⟨rfl,hb3⟩;have HB3:=Hd (HBEL.out.trans (hb3.mono HBEL.out.size));clear hb3;go_wp2_with fail;go_ret;exact⟨rfl,HB3.out⟩
   have HSP:=Hd (HB.out (by first|rfl|trivial));obtain⟨n,hn⟩:∃ n:Nat,vars=(n:Nat):=⟨vars.toNat,by have:=HSP.out.lo;have:=HV.out;omega⟩;subst hn;have hn6:n<=6:=by have:=HSP.out.hi;have:=HV.out;omega
   have hn1:1<=n:=by have:=HSP.out.lo;have:=HV.out;omega
   have hes:q.es.length<=5:=HSP.out.es;have HSET:=Hd (HST.out w2 n HBEL.out HSP.out rfl _ rfl);clear HST HLV HB;go_wp2_with fail;refine HSET.out.mono ?_;rintro y w3 ⟨mb,vl,vx,wb,hs,nx,rfl,hbw,hsnd,hnx,o3,m3,V3,lt3,-⟩;have hhl:hs.length<=5:=by have:=congrArg List.length hsnd;simp at this;omega
   obtain⟨al,cl,hvl⟩:∃ a c,vl=.slice a hs.length c:=by
    obtain⟨a,c,e,_⟩:=lt3.l.own.slice;exact⟨a,c,by rw[e];simp[Zbb]⟩
   subst hvl;have HSUB:Hid (∀ p∈hs,p∈two++hs):=Hd fun p hp=>List.mem_append_right _ hp
   have hfl:(two++hs).length=2+hs.length:=by simp[two];omega
   have HROOM:Hid (∀ k,k<=192->k*2^n<=Zck n):=Hd fun k hk=>Zeu hk
   have HCB:Hid (wb.cell? ⟨w.heap.size,0,none⟩=some (.int .i64 (n:Nat))):=Hd ((hbw.cell (p:=⟨w.heap.size,0,none⟩) (Zaa e0)).trans e0);have c0:=(lt3.below0.cell (p:=⟨w.heap.size,0,none⟩) (Zaa ((hbw.cell (p:=⟨w.heap.size,0,none⟩) (Zaa e0)).trans e0))).trans ((hbw.cell (p:=⟨w.heap.size,0,none⟩) (Zaa e0)).trans e0);have HBB:Hid (Below w.heap.size w wb):=Hd (HBEL.out.trans (hbw.mono HBEL.out.size));have HRG:Hid (∀ p∈two++hs,p.1<nx):=Hd fun p hp=>(lt3.sat.range p hp).2
   have HL:=Hd ((lt3.withOd (Od':=fun _=>True) trivial).withSt (Wt':=SufW q.plan) (by rw[lt3.st.1];exact List.suffix_refl _));clear lt3 hbw hsnd HSET e0 e1 e2 e3;have h12:zs.length<=12:=by omega
   have hbw3:Below w.heap.size w w3:=HBB.out.trans (HL.out.below0.mono HBB.out.size);have HZ3:=Hd (HZ8.out.below hbw3);have hob:wb.heap.size<=w3.heap.size:=HL.out.sat.chg.size;clear hbw3 HZ8;go_upto_region 7 with fail;obtain⟨w4,hw4⟩:∃ w4,w4=(w3.alloc (.cells #[] 3)).alloc (.cells #[] 52):=⟨_,rfl⟩;have HW4:Hid (_=w4):=Hd hw4.symm;have hb4:Below w3.heap.size w3 w4:=by rw[hw4];exact(Zad _ _).alloc (by simp) _
   have HLS0:Hid (Ls2 n (two++hs) o3 wb.heap.size w3 0 (.slice (some ⟨w3.heap.size,0,none⟩) 0 0) (.slice (some ⟨w3.heap.size+1,0,none⟩) 0 0) w4 []):=Hd (by
    refine⟨rfl,(fun p hp=>by simp at hp),⟨?_,fun k hk=>?_⟩,⟨⟨[],rfl,?_,fun i v hv=>by simp at hv⟩,fun k hk=>?_⟩,(fun k hk=>?_),(fun k hk=>?_),hb4⟩
    ·
     rw[hw4];exact(Zej 3 w3 wb.heap.size hob).alloc _
    ·
     obtain rfl:w3.heap.size=k:=by injection hk
     exact HL.out.sat.lt.none (Nat.le_refl _)
    ·
     rw[hw4];have:=Zej 52 (w3.alloc (.cells #[] 3)) wb.heap.size (by simp;omega);rw[World.size_alloc] at this;exact this
    ·
     obtain rfl:w3.heap.size+1=k:=by injection hk
     exact HL.out.sat.lt.none (by omega)
    ·
     obtain rfl:w3.heap.size=k:=by injection hk
     exact Nat.le_refl _
    ·
     obtain rfl:w3.heap.size+1=k:=by injection hk
     omega)
   have HC0:=Hd c0;rw[HW4.out];clear hw4 hb4 HW4 c0;go_wp2_with fail
   go_loopw [11,12,13,14,15] (fun s11 s12 s13 _ _ wr=>∃ (i:Nat) (ps:List (Int×BF)),i<=zs.length/\s13=.int .i64 i/\Hid (Ls2 n (two++hs) o3 wb.heap.size w3 i s11 s12 wr ps)) (fun _ _ s13 _ _ _=>zs.length-(intOf s13).toNat)
   case atStart=>exact⟨0,[],Nat.zero_le _,rfl,HLS0⟩
   case round =>
    clear HLS0
    rename World=>wr
    obtain⟨i,ps,hi,rfl,HLS⟩:=hrel
    by_cases hlt:i<zs.length
    ·
     have hiz:(i:Int)<(zs.length:Int):=by omega
     obtain⟨b8,of8,rfl,k8,hk8⟩:=HZ3.out.cells i hlt;obtain⟨z,hz⟩:∃ z,z=zs.getD i 0:=⟨_,rfl⟩;rw[<- hz] at k8 hk8;have k8r:=(HLS.out.b.cell (p:=⟨b8,of8+i,none⟩) (Zaa k8)).trans k8;have c0r:=(HLS.out.b.cell (p:=⟨w.heap.size,0,none⟩) (Zaa HC0.out)).trans HC0.out;have hbd:=HLS.out.b.trans ((Zae wr 1).mono HLS.out.b.size);have HP:=Hd (Zwb (HL.out.below hbd) HSUB.out (by omega) (by omega) z hk8);clear hz hk8 k8 hbd;go_upto_region 10 with fail;refine Zfx [0,1,2,3,4,5,6,7,8,9,10,11,12,13] (fun W=>Zb2 (fun _=>True) wr.drew W) (fun ch w'=>False) (fun c a w hd h=>h.elim) (by kernel_rfl) (Zb2.refl _ _) ?_
     iterate 8
      refine Zdx rfl rfl (by kernel_rfl) ?_;apply Exists.intro;refine⟨fun w' hw=>?_,?_⟩
      ·
       have q1:=hw _ _ trivial c0r;have q2:=hw _ _ trivial k8r;go_simp;rfl
      simp only[Zag]
     refine Zm2 (R1:=fun v w'=>∃ a F u,v=.tuple #[.int .i64 a,u]/\(a,F)∈two++hs/\LawB w' o3 wb.heap.size u (tabB n F)/\Below wr.drew.heap.size wr.drew w') rfl (by kernel_rfl) rfl rfl (by go_simp) (HP.out.mono fun e w' ⟨a,F,u,h1,h2⟩=>⟨_,h1,a,F,u,rfl,h2⟩) (fun v w' ⟨_,_,_,_,_,_,h⟩=>Zb2.below h) ?_;rintro v w5-⟨a,F,u,rfl,hmem,hf,hb5⟩;obtain⟨au,cu,rfl,_⟩:=hf.is;obtain⟨ul,hul⟩:∃ ul,ul=(tabB n F).length:=⟨_,rfl⟩;rw[<- hul] at hf;rw[<- hul];obtain⟨u,hu⟩:∃ u,u=Value.slice au ul cu:=⟨_,rfl⟩;rw[<- hu] at hf;have HU:=Hd hu;clear hul hu;have HB5:Hid (Below wr.heap.size wr w5):=Hd ((Zae wr 1).trans hb5);have HF5:=Hd hf;have HME:=Hd hmem;clear hf hmem hb5 HP;simp only[Zag]
     iterate 5
      refine Zdx rfl rfl (by kernel_rfl) ?_;apply Exists.intro;refine⟨fun w' hw=>?_,?_⟩
      ·
       go_simp;rfl
      simp only[Zag]
     refine Zkr (by kernel_rfl) ?_;have HLS5:Hid (Ls2 n (two++hs) o3 wb.heap.size w3 i u11 u12 w5 ps):=Hd ⟨HLS.out.len,HLS.out.sub,HLS.out.l.chg (Zbm HB5.out o3),HLS.out.x.chg (Zbm HB5.out o3),HLS.out.bl,HLS.out.bx,HLS.out.b.trans (HB5.out.mono HLS.out.b.size)⟩;have hs5:wb.heap.size<=w5.heap.size:=Nat.le_trans hob HLS5.out.b.size;have hpl:ps.length=i:=HLS.out.len;clear k8r c0r HLS HB5;go_upto_region 12 with (at_builtin;refine Zch Zkb _ rfl _ _ rfl wb.heap.size _ (Zbb (ps.map Prod.fst)) _ rfl rfl rfl rfl rfl (by exact HLS5.out.l.own) (by simp[Zbb];omega) hs5 ?_;intro v6 w6 hown6 g1 g2 g3 g4 hk6)
     have hkk6:Zdl u11 v6 w5 w6:=hk6;have hw6:=Zme g1 g2 g3 g4 hkk6;have HF6:Hid (LawB w6 o3 wb.heap.size u (tabB n F)):=Hd (HF5.out.typ hw6 (by decide) HLS5.out.l.own.typed);have HLT:=Hd HL.out.sat.lt;have holt5:Zaj o3 w5:=HL.out.sat.lt.mono HLS5.out.b.size
     have HLS6:Hid (LawL w6 o3 wb.heap.size v6 ((ps++[(a,F)]).map Prod.fst)/\LawX w6 o3 wb.heap.size u12 (ps.map fun p=>tabB n p.2)/\(∀ k,v6.ownBlock=some k->w3.heap.size<=k)/\(∀ k,u12.ownBlock=some k->w3.heap.size<=k)/\Below w3.heap.size w3 w6):=Hd (by
      refine⟨by rw[List.map_append];exact HLS5.out.l.app holt5 hown6 hkk6,HLS5.out.x.typ hw6 (by decide) (by decide) HLS5.out.l.own.typed,fun k hk=>?_,HLS5.out.bx,HLS5.out.b.trans (hw6.below HLS5.out.bl HLS5.out.b.size)⟩;rcases hkk6.loc with e|⟨g,e,hg⟩
      ·
       exact HLS5.out.bl k (by rw[<- e];exact hk)
      ·
       rw[e] at hk;cases hk;exact Nat.le_trans HLS5.out.b.size hg)
     obtain⟨rs,hrs1,hrs2,hrs3⟩:=HLS6.out.2.1.ex;have HR2:=Hd hrs2;have HR3:=Hd hrs3;have hrl:rs.length=i:=by rw[hrs1];simp[hpl]
     have hs6:wb.heap.size<=w6.heap.size:=Nat.le_trans hob HLS6.out.2.2.2.2.size;clear hown6 g1 g2 g3 g4 hk6 hkk6 hw6 hrs1 hrs2 hrs3 HF5 holt5 hs5;go_upto_region 9 with (at_builtin;refine Zch Zur _ rfl _ _ rfl wb.heap.size _ rs (.slice au ul cu) rfl rfl rfl rfl rfl (by exact HR2.out) (by omega) hs6 ?_;intro v8 w8 hown8 g1 g2 g3 g4 hk8)
     have HLS8:Hid (Ls2 n (two++hs) o3 wb.heap.size w3 (i+1) v6 v8 w8 (ps++[(a,F)])):=Hd (by
      have hkk8:Zdl u12 v8 w6 w8:=hk8;have hw8:=Zme g1 g2 g3 g4 hkk8;obtain⟨k1,k2,k3,k4,k5⟩:=HLS6.out;refine⟨by simp[hpl],fun p hp=>?_,k1.typ hw8 (by decide) HR2.out.typed,?_,k3,fun k hk=>?_,k5.trans (hw8.below k4 k5.size)⟩
      ·
       rcases List.mem_append.1 hp with h|h
       ·
        exact HLS5.out.sub p h
       ·
        simp at h;subst h;exact HME.out
      ·
       rw[List.map_append];refine k2.app (HLT.out.mono k5.size) (by simp[hrl,hpl]) HR3.out hw8 HR2.out.typed HF6.out ?_ hkk8;rw[HU.out];exact hown8
      ·
       rcases hkk8.loc with e|⟨g,e,hg⟩
       ·
        exact k4 k (by rw[<- e];exact hk)
       ·
        rw[e] at hk;cases hk;exact Nat.le_trans k5.size hg)
     clear hown8 g1 g2 g3 g4 hk8 HR2 HR3 HLS6 HF6 HLS5 HLT HME;go_wp2_with fail;go_roundw
     case rel=>exact⟨i+1,ps++[(a,F)],by omega,by go_num,HLS8⟩
     case measure=>simp[intOf];omega
    ·
     have hie:i=zs.length:=by omega
     have hiz:¬ (i:Int)<(zs.length:Int):=by omega
     have HL2:=Hd ((HL.out.below HLS.out.b));have hpl:ps.length=i:=HLS.out.len;have HLR:=Hd (Zqe HLS.out.l HLS.out.x HLS.out.sub (by omega));obtain⟨ak,ck,ek,hik⟩:=HLR.out.l;obtain⟨ax,cx,ex,hix⟩:=HLR.out.tabs;subst ek;subst ex;obtain⟨j,hj,hrem⟩:=rem3 zo;have hcv:=Zp5 hzo;have HTX:=Hd hix
     have HAL:Hid (ArgL (two++hs) wb wr o3 ak (ps.map Prod.fst) (ps.map Prod.snd)):=Hd (by
      refine⟨hik,fun x hx=>?_,by simp,fun q hq=>?_⟩
      ·
       have hb:(Value.slice ak ps.length ck).ownBlock=some x.block:=by rw[hx];rfl
       exact⟨(HLS.out.l.own.lt _ hb).2,(HLS.out.l.own.lt _ hb).1,HLS.out.l.no _ hb⟩
      ·
       have:=HLS.out.sub (ps[q]'(by simpa using hq)) (List.getElem_mem _);simpa using this)
     have HJ0:=Zsu Zbi HL2.out.sat HAL.out HL2.out.st (by omega) (Zie (l:=(two++hs).length) (r:=12) (by omega) (by rw[List.length_map];exact Nat.mul_le_mul (by omega) (Nat.sub_le _ _))) j hj (c:=ck);rw[List.length_map] at HJ0;have HJ:=Hd HJ0;obtain⟨G,hG⟩:∃ G,G=Zbf j (ps.map Prod.snd):=⟨_,rfl⟩;have HG:=Hd hG;rw[<- hG] at HJ;have HPL:Hid (ps.length<=12):=Hd (by omega);clear HJ0 hix hik HLR hG HTX HAL hpl hie;go_wp2_with fail;refine HJ.out.mono ?_;rintro y w5 ⟨rfl,o5,m5,V5,hc5,hw5,hs5⟩;have HL5:=Hd (HL2.out.go (Wt':=SufW q.plan) hs5 (HL2.out.b2.app _) hw5 hc5);obtain⟨ax5,cx5,e5,hix5⟩:=(Zqe (HLS.out.l.chg hc5) (HLS.out.x.chg hc5) HLS.out.sub (by have:=HPL.out;omega)).tabs;injection e5 with e5a e5b e5c
     subst e5a;subst e5c;have HRJ0:=Ztd (n:=n) (by omega) hix5 (c:=cx) j hj;rw[List.length_map,<- HG.out] at HRJ0;have HRJ:=Hd HRJ0;have c5:=(HL5.out.below0.cell (p:=⟨w.heap.size,0,none⟩) (Zaa HCB.out)).trans HCB.out;clear hs5 hw5 hc5 HJ HL2 hix5 HRJ0 HLS e5b;go_wp2_with fail;refine HRJ.out.mono ?_;rintro y w6 ⟨v6,rfl,hv6,hb6⟩;have HL6:=Hd (HL5.out.below hb6);have HIS:=Hd (Zva HL6.out.sat (by omega) (k:=nx) (F:=G) (by simp) hv6);clear hv6 hb6 HRJ HL5 c5;go_wp2_with fail;refine HIS.out.mono ?_;rintro y w7 ⟨b,rfl,hb,hb7⟩;obtain rfl:=hb.2 (by first|rfl|trivial);have HL7:=Hd (HL6.out.below hb7)
     have HLF:Hid (Calls Tryz.prog 49 #[.pointer (some ⟨mb,0,none⟩),.int .i64 ((hs.length:Nat)+1)] w7 fun x w'=>x=.returned (.bool true)/\w7=w'):=Hd ((Zrb HL7.out.sat (hs.length+1) (by omega)).mono fun e w' ⟨h1,h2⟩=>by
      rw[h1,decide_eq_true (by simp[two]<;>omega)];exact⟨rfl,h2⟩)
     clear hb hb7 HIS HL6;go_wp2_with fail;refine HLF.out.mono ?_;rintro y w' ⟨rfl,rfl⟩;have HRW:=Hd (HL7.out.row (fun p hp=>List.mem_append_left _ (HSUB.out p hp)) (by omega));obtain⟨avx,cvx,evx,hvx⟩:=HRW.out.x;obtain⟨al2,cl2,evl,hvl⟩:=HRW.out.l;injection evl with e1 e2 e3
     subst e1;subst evx;have HVX:=Hd hvx;have HVL:=Hd hvl;have hb7:=Below.refl w7.heap.size w7;have HB70:Hid (Below w7.heap.size w7 w7):=Hd hb7;clear hvx hvl e2 e3 HLF hb7;go_upto_region 18 with fail
     go_loopw [6,19] (fun _ s19 wr=>∃ i:Nat,i<=hs.length/\s19=.int .i64 i/\Hid (Below w7.heap.size w7 wr)) (fun _ s19 _=>hs.length-(intOf s19).toNat)
     case atStart=>exact⟨0,Nat.zero_le _,rfl,HB70⟩
     case round =>
      rename World=>wr
      obtain⟨i,hi,rfl,HBR⟩:=hrel
      by_cases hlt2:i<hs.length
      ·
       have hiz2:(i:Int)<(hs.length:Int):=by omega
       obtain⟨b1,of1,rfl,k1⟩:=HVL.out.cells i (by simpa using hlt2);obtain⟨b2,of2,v2,rfl,k2,hv2,_⟩:=HVX.out.cells i (by simpa using hlt2);rw[show at0 (hs.map Prod.fst) i=hs[i].1 by rw[Zci (by simpa using hlt2)];simp] at k1;rw[show (hs.map fun p=>tabB n p.2).getD i []=tabB n hs[i].2 by simp[List.getD,hlt2]] at hv2;have k1r:=(HBR.out.cell (p:=⟨b1,of1+i,none⟩) (Zaa k1)).trans k1;have k2r:=(HBR.out.cell (p:=⟨b2,of2+i,none⟩) (Zaa k2)).trans k2;have hbd:=HBR.out.trans ((Zae wr 1).mono HBR.out.size);have HIS:=Hd (Zva (HL7.out.sat.below hbd) (by omega) (k:=hs[i].1) (F:=hs[i].2) (List.mem_append_left _ (HSUB.out _ (List.getElem_mem hlt2))) (hv2.below hbd));obtain⟨hk,hhk⟩:∃ hk,hk=hs[i].1:=⟨_,rfl⟩;rw[<- hhk] at k1r HIS;clear hhk k1 k2 hv2 hbd;go_upto_region 20 with fail;refine Zfx [0,1,2,3,4,5,6,7,8,9,10] (fun W=>Zb2 (fun _=>True) wr.drew W) (fun ch w'=>False) (fun c a w hd h=>h.elim) (by kernel_rfl) (Zb2.refl _ _) ?_
       iterate 9
        refine Zdx rfl rfl (by kernel_rfl) ?_;apply Exists.intro;refine⟨fun w' hw=>?_,?_⟩
        ·
         have q1:=hw _ _ trivial k1r;have q2:=hw _ _ trivial k2r;go_simp;rfl
        simp only[Zag]
       refine Zm2 (R1:=fun v w'=>v=.bool true/\Below wr.drew.heap.size wr.drew w') rfl (by kernel_rfl) rfl rfl (by go_simp) (HIS.out.mono fun e w' ⟨b,h1,h2,h3⟩=>⟨_,h1,by rw[h2.2 rfl],h3⟩) (fun v w' ⟨_,h⟩=>Zb2.below h) ?_;rintro v w8-⟨rfl,hb8⟩;have HB8:Hid (Below w7.heap.size w7 w8):=Hd (HBR.out.trans (((Zae wr 1).trans hb8).mono HBR.out.size));clear hb8 HIS;simp only[Zag];refine Zdx rfl rfl (by kernel_rfl) ?_;apply Exists.intro;refine⟨fun w' hw=>?_,?_⟩
       ·
        go_simp;rfl
       simp only[Zag];refine Zkr (by kernel_rfl) ?_;clear k1r k2r;go_wp2_with fail;go_roundw
       case rel=>exact⟨i+1,by omega,by go_num,HB8⟩
       case measure=>simp[intOf];omega
      ·
       have hie2:i=hs.length:=by omega
       have hiz2:¬ (i:Int)<(hs.length:Int):=by omega
       have HL8:=Hd (HL7.out.below HBR.out);have HD:=Hd (Zj9 Zbi (fs:=two++hs) (hs:=[(nx,G)]) (r:=[]) (by have:=HL8.out.goes;simpa using this) (Zw7.app _) (by omega) (by simp) (T:=wr.alloc (.cells #[.int .i64 nx] 3)) rfl);clear HL7 HVX HVL HRW HBR;go_wp2_with fail;refine HD.out.mono ?_;rintro y w9 ⟨rfl,o9,m9,V9,hc9,hw9,hs9⟩;have HB9:=Hd hs9.chg.below0;have HLV:=Hd (Zd5 w9);clear hc9 hw9 hs9 HD HL8;go_wp2_with fail;refine HLV.out.mono ?_;rintro y w11 ⟨rfl,hb11⟩;have HFN:=Hd (HBB.out.trans ((HB9.out.trans (hb11.mono HB9.out.size)).mono HBB.out.size));clear hb11 HLV;go_wp2_with fail;go_ret;exact⟨rfl,HFN.out⟩
end Go.Proofs.YtkngbkjiepalfaaGreat
