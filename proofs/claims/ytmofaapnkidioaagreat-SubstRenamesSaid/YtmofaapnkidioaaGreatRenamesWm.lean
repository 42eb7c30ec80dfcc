/- The walk of a law: RenamesW. -/
import Derived.Test.YtmofaapnkidioaaGreatQ8
set_option linter.unusedSimpArgs false
set_option linter.unusedVariables false
set_option linter.unusedSectionVars false
set_option linter.unnecessarySimpa false
set_option maxRecDepth 100000
set_option maxHeartbeats 8000000
namespace Go.Proofs.YtmofaapnkidioaaGreat
open Go.RowKit
theorem renames_walk (q:AskD) (ao ae ap:Option Addr) (co ce cp:Nat) (kf:Int) (pa:Option Addr) (pc:Nat) (ps:List (Int×Int)) (za:Option Addr) (zc:Nat) (zs:List Int) (w:World) (h:AskAt w q ao ae ap) (hps:Zdc w pa ps) (hzs:Zay w za zs) :
 Calls Tryz.prog 7 #[askV q ao ae ap co ce cp,.int .i64 kf,.slice pa ps.length pc,.slice za zs.length zc] w fun y w'=>y=.returned (.bool true)/\Below w.heap.size w w':=by
 have HSM:Hid (∀ W,Below w.heap.size w W->∀ u,u=askV q ao ae ap co ce cp->Calls Tryz.prog 15 #[u] W fun y w'=>∃ b,y=.returned (.bool b)/\(b=true->Zgc q)/\Below W.heap.size W w'):=Hd fun W hb u hu=>by subst hu;exact Zit q ao ae ap co ce cp W (h.below hb)
 have HST:Hid (∀ W n,Below w.heap.size w W->Zgc q->q.vars=(n:Nat)->∀ u,u=askV q ao ae ap co ce cp->Calls Tryz.prog 17 #[u] W (SetP Zhj q n W)):=Hd fun W n hb hs hn u hu=>by subst hu;exact Zis Zbn q ao ae ap co ce cp W (h.below hb) hs n hn
 obtain⟨vars,hvars⟩:∃ z,z=q.vars:=⟨_,rfl⟩;have HV:=Hd hvars;obtain⟨plen,hplen⟩:∃ z,z=q.plan.length:=⟨_,rfl⟩;unfold askV at HSM HST ⊢;rw[<- hvars,<- hplen] at HSM HST ⊢;obtain⟨olen,holen⟩:∃ z,z=q.order.length:=⟨_,rfl⟩;obtain⟨elen,helen⟩:∃ z,z=q.es.length:=⟨_,rfl⟩;rw[<- holen,<- helen] at HSM HST ⊢;obtain⟨w1,hw1⟩:∃ w1,w1=w.alloc (.cells #[.int .i64 vars,.slice ao olen co,.slice ae elen ce,.slice ap plen cp] 26):=⟨_,rfl⟩;have HW1:Hid (_=w1):=Hd hw1.symm;have HB1:Hid (Below w.heap.size w w1):=by rw[hw1];exact Hd (Zac _ _)
 have hblk:w1.heap[w.heap.size]?=some (.cells #[.int .i64 vars,.slice ao olen co,.slice ae elen ce,.slice ap plen cp] 26 (0,0)):=by rw[hw1];exact heap_alloc_new _ _
 have d0:w1.cell? ⟨w.heap.size,0,none⟩=some (.int .i64 vars):=by rw[cell_of_row _ _ 0 _ _ _ hblk];rfl
 have d1:w1.cell? ⟨w.heap.size,1,none⟩=some (.slice ao olen co):=by rw[cell_of_row _ _ 1 _ _ _ hblk];rfl
 have d2:w1.cell? ⟨w.heap.size,2,none⟩=some (.slice ae elen ce):=by rw[cell_of_row _ _ 2 _ _ _ hblk];rfl
 have d3:w1.cell? ⟨w.heap.size,3,none⟩=some (.slice ap plen cp):=by rw[cell_of_row _ _ 3 _ _ _ hblk];rfl
 have HPS:=Hd hps;have HZS:=Hd hzs;have hpsl:=hps.len;have hzsl:=hzs.len;clear h hw1 hblk hvars hplen holen helen hps hzs
 go_enter Tryz.func7,Tryz.ntmps7
 go_upto_region 1 with fail;rw[HW1.out];go_wp2_with fail;refine(HSM.out _ HB1.out _ rfl).mono ?_;rintro y w2 ⟨b,rfl,hb,hbel⟩;have HB:=Hd hb;have HBEL:=Hd (HB1.out.trans (hbel.mono HB1.out.size));have e0:=(hbel.cell (p:=⟨w.heap.size,0,none⟩) (Zaa d0)).trans d0;have e1:=(hbel.cell (p:=⟨w.heap.size,1,none⟩) (Zaa d1)).trans d1;have e2:=(hbel.cell (p:=⟨w.heap.size,2,none⟩) (Zaa d2)).trans d2;have e3:=(hbel.cell (p:=⟨w.heap.size,3,none⟩) (Zaa d3)).trans d3;have HLV:=Hd (Zbi w2);clear hb hbel HSM d0 d1 d2 d3 HW1;cases b with
 | false =>
   go_wp2_with fail;refine HLV.out.mono ?_;rintro y w3 ⟨rfl,hb3⟩;have HB3:=Hd (HBEL.out.trans (hb3.mono HBEL.out.size));clear hb3;go_wp2_with fail;go_ret;exact⟨rfl,HB3.out⟩
 | true =>
   by_cases hlen:(ps.length:Int)>8
   ·
    go_wp2_with fail;refine HLV.out.mono ?_;rintro y w3 ⟨rfl,hb3⟩;have HB3:=Hd (HBEL.out.trans (hb3.mono HBEL.out.size));clear hb3;go_wp2_with fail;go_ret;exact⟨rfl,HB3.out⟩
   by_cases hlen2:(zs.length:Int)>8
   ·
    go_wp2_with fail;refine HLV.out.mono ?_;rintro y w3 ⟨rfl,hb3⟩;have HB3:=Hd (HBEL.out.trans (hb3.mono HBEL.out.size));clear hb3;go_wp2_with fail;go_ret;exact⟨rfl,HB3.out⟩
   have HSP:=Hd (HB.out (by first|rfl|trivial));obtain⟨n,hn⟩:∃ n:Nat,vars=(n:Nat):=⟨vars.toNat,by have:=HSP.out.lo;have:=HV.out;omega⟩;subst hn;have hn6:n<=6:=by have:=HSP.out.hi;have:=HV.out;omega
   have hn1:1<=n:=by have:=HSP.out.lo;have:=HV.out;omega
   have hes:q.es.length<=5:=HSP.out.es;have HSET:=Hd (HST.out w2 n HBEL.out HSP.out rfl _ rfl);clear HST HLV HB;go_wp2_with fail;refine HSET.out.mono ?_;rintro y w3 ⟨mb,vl,vx,wb,hs,nx,rfl,hbw,hsnd,hnx,o3,m3,V3,lt3,-⟩;have hhl:hs.length<=5:=by have:=congrArg List.length hsnd;simp at this;omega
   obtain⟨al,cl,hvl⟩:∃ a c,vl=.slice a hs.length c:=by
    obtain⟨a,c,e,_⟩:=lt3.l.own.slice;exact⟨a,c,by rw[e];simp[Zba]⟩
   subst hvl;have HSUB:Hid (∀ p∈hs,p∈two++hs):=Hd fun p hp=>List.mem_append_right _ hp
   have hfl:(two++hs).length=2+hs.length:=by simp[two];omega
   have HROOM:Hid (∀ k,k<=192->k*2^n<=Zcd n):=Hd fun k hk=>Zey hk
   have HCB:Hid (wb.cell? ⟨w.heap.size,0,none⟩=some (.int .i64 (n:Nat))):=Hd ((hbw.cell (p:=⟨w.heap.size,0,none⟩) (Zaa e0)).trans e0);have c0:=(lt3.below0.cell (p:=⟨w.heap.size,0,none⟩) (Zaa ((hbw.cell (p:=⟨w.heap.size,0,none⟩) (Zaa e0)).trans e0))).trans ((hbw.cell (p:=⟨w.heap.size,0,none⟩) (Zaa e0)).trans e0);have HBB:Hid (Below w.heap.size w wb):=Hd (HBEL.out.trans (hbw.mono HBEL.out.size));have HRG:Hid (∀ p∈two++hs,p.1<nx):=Hd fun p hp=>(lt3.sat.range p hp).2
   have HL:=Hd ((lt3.withOd (Od':=fun _=>True) trivial).withSt (Wt':=SufW q.plan) (by rw[lt3.st.1];exact List.suffix_refl _));clear lt3 hbw hsnd HSET e0 e1 e2 e3;have h8:ps.length<=8:=by omega
   have hz8:zs.length<=8:=by omega
   have HP1:=Hd (Zi9 HL.out HSUB.out (by omega) (by omega) kf);go_wp2_with fail;refine HP1.out.mono ?_;rintro y wA ⟨a1,F1,r1,rfl,hm1,hf1,hbA⟩;have HLA:=Hd (HL.out.below hbA);have HF1:=Hd hf1;have HM1:=Hd hm1;have hbwa:Below w.heap.size w wA:=HBB.out.trans (HLA.out.below0.mono HBB.out.size);have HPSA:=Hd (HPS.out.below (b0:=0) hbwa);have HZSA:=Hd (HZS.out.below hbwa);have cA:=(hbA.cell (p:=⟨w.heap.size,0,none⟩) (Zaa c0)).trans c0;have HWR:=Hd (Zlr HLA.out.sat true (c:=pc) HPSA.out);obtain⟨er,her⟩:∃ er,er=Zb0 n (erR n) ps:=⟨_,rfl⟩;rw[show erN n (two++hs) true=erR n from if_pos rfl,<- her] at HWR;have HER:=Hd her;have HPS0:=Hd HPS.out;have HZS0:=Hd HZS.out;clear hf1 hbA HP1 HL c0 hm1 HPS HZS her hbwa;go_wp2_with fail;refine HWR.out.mono ?_;rintro y w5 ⟨rfl,hb5⟩;have HL5:=Hd (HLA.out.below hb5);have c5:=(hb5.cell (p:=⟨w.heap.size,0,none⟩) (Zaa cA)).trans cA;have HF15:=Hd (HF1.out.below' hb5);have HZS5:=Hd (HZSA.out.below hb5);have HVC:=Hd (Ziv Zbn HL5.out.sat HM1.out (c:=pc) (HPSA.out.below (b0:=0) hb5) HL5.out.st (by omega) (Zip (by omega)));rw[<- HER.out] at HVC;have HPS5:=Hd (HPSA.out.below (b0:=0) hb5);have hee:(er != er)=false:=by simp
   have HRM:Hid (∀ c,c<=100->c*2^n+(2^n-1)*(2^n+1)<=Zcd n):=Hd fun c hc=>Zip hc
   clear hb5 HLA HF1 HWR cA HPSA HZSA
   by_cases her0:er=0
   ·
    subst her0;clear hee;have HSG:=Hd (Yax HER.out.symm);obtain⟨G,hG⟩:∃ G,G=Zbd (sigR ps) F1:=⟨_,rfl⟩;have HG:=Hd hG;have HVC2:Hid (Calls Tryz.prog 38 #[.pointer (some ⟨mb,0,none⟩),.int .i64 a1,.slice pa ps.length pc] w5 fun x w'=>NewF Zhj n (Zcd n) wb mb (two++hs) nx q.plan G o3 w5 x w'):=Hd (HVC.out.mono fun x w' hx=>by rw[hG];exact hx.1 rfl);clear hG HVC;go_wp2_with fail;refine HVC2.out.mono ?_;rintro y w6 ⟨rfl,o4,m4,V4,hc4,hw4,hs4⟩
    have HS6:=Hd (StF.of (rs:=[(r1,F1)]) hw4 hs4 (by
     intro p hp;simp only[List.mem_cons,List.not_mem_nil,or_false] at hp;subst hp;exact HF15.out.chg hc4))
    have HST6:=Hd hs4;have hb06:=hs4.chg.below0;have hbw6:Below w.heap.size w w6:=HBB.out.trans (hb06.mono HBB.out.size);have HPS6:Hid (Zdc w6 pa ps):=Hd (HPS0.out.below (b0:=0) hbw6);have HZS6:Hid (Zay w6 za zs):=Hd (HZS0.out.below hbw6);have HC6:Hid (w6.cell? ⟨w.heap.size,0,none⟩=some (.int .i64 (n:Nat))):=Hd ((hb06.cell (p:=⟨w.heap.size,0,none⟩) (Zaa HCB.out)).trans HCB.out);have HNO:Hid (∀ k,w6.heap.size<=k->o4 k=none):=Hd fun k hk=>hs4.lt.none hk
    have HQ0:Hid (PlF n w6 o4 w6.heap.size (.slice none 0 0) (rnOf (ps.take 0))):=Hd (Zv5 n w6 o4 w6.heap.size);have HB0:Hid (Below w6.heap.size w6 w6):=Hd (Below.refl _ _);clear hs4 hw4 hc4 HVC2 HL5 HF15 c5 hb06 hbw6 HZS5 HPS5;go_wp2_with fail
    go_loopw [19,21,79] (fun s19 _ s79 wr=>∃ j:Nat,j<=ps.length/\s79=.int .i64 j/\Hid (PlF n wr o4 w6.heap.size s19 (rnOf (ps.take j)))/\Hid (Below w6.heap.size w6 wr)) (fun _ _ s79 _=>ps.length-(intOf s79).toNat)
    case atStart=>exact⟨0,Nat.zero_le _,rfl,HQ0,HB0⟩
    case round =>
     clear HQ0 HB0;obtain⟨j,hj,rfl,HPL,HBR⟩:=hrel;have cR:=(HBR.out.cell (p:=⟨w.heap.size,0,none⟩) (Zaa HC6.out)).trans HC6.out
     by_cases hlt:j<ps.length
     ·
      have hjz:(j:Int)<(ps.length:Int):=by omega
      obtain⟨b,off,rfl,ck0,ck1⟩:=HPS6.out.cells j hlt;have d0:=(HBR.out.cell (p:=⟨b,off+j*2,none⟩) (Zaa ck0)).trans ck0;have d1:=(HBR.out.cell (p:=⟨b,off+j*2+1,none⟩) (Zaa ck1)).trans ck1;have HIN:=Hd (HSG.out.2.2.2.2 _ (List.getElem_mem hlt))
      have HTK:Hid (rnOf (ps.take (j+1))=rnOf (ps.take j)++[(ps[j].1,varF ps[j].2.toNat)]):=Hd (by
       show List.map _ _=List.map _ _++_
       rw[List.take_succ_eq_append_getElem hlt,List.map_append];rfl)
      have HPLL:Hid ((rnOf (ps.take j)).length<=8):=Hd (by simp[rnOf];omega);obtain⟨p,hp⟩:∃ p,p=ps[j]:=⟨_,rfl⟩;rw[<- hp] at d0 d1 HIN HTK;obtain⟨pv,pk⟩:=p;dsimp only at d0 d1 HIN HTK;obtain⟨kn,hkn⟩:∃ kn:Nat,pk=(kn:Int):=⟨pk.toNat,by have:=HIN.out.1;omega⟩;subst hkn;rw[Int.toNat_natCast] at HTK;have hkn:kn<n:=by have:=HIN.out.2;omega
      obtain⟨w2,hw2⟩:∃ w2,w2=wr.alloc (.cells #[.int .i64 pv,.int .i64 (kn:Nat)] 66):=⟨_,rfl⟩;have HW2:Hid (_=w2):=Hd hw2.symm;have hb2:Below wr.heap.size wr w2:=by rw[hw2];exact Zac _ _
      have g2:w2.heap[wr.heap.size]?=some (.cells #[.int .i64 pv,.int .i64 (kn:Nat)] 66 (0,0)):=by rw[hw2];exact heap_alloc_new _ _
      have e0:w2.drew.cell? ⟨wr.heap.size,0,none⟩=some (.int .i64 pv):=by
       have:w2.cell? ⟨wr.heap.size,0,none⟩=some (.int .i64 pv):=by simp[World.cell?,g2]
       exact this
      have e1:w2.drew.cell? ⟨wr.heap.size,1,none⟩=some (.int .i64 (kn:Nat)):=by
       have:w2.cell? ⟨wr.heap.size,1,none⟩=some (.int .i64 (kn:Nat)):=by simp[World.cell?,g2]
       exact this
      have c2:w2.drew.cell? ⟨w.heap.size,0,none⟩=some (.int .i64 (n:Nat)):=(hb2.cell (p:=⟨w.heap.size,0,none⟩) (Zaa cR)).trans cR;have hb2d:Below wr.heap.size wr w2.drew:=hb2.trans ((Zaf w2 1).mono hb2.size);have HB2:Hid (Below w6.heap.size w6 w2.drew):=Hd (HBR.out.trans (hb2d.mono HBR.out.size));have HPLB:Hid (∀ k,u19.ownBlock=some k->k<wr.heap.size):=Hd fun k hk=>by
       obtain⟨ys,h1,_⟩:=HPL.out.ex;exact(h1.lt k hk).2
      have HPL2:=Hd (HPL.out.below hb2d);have HVR:Hid (Calls Tryz.prog 40 #[.int .i64 (kn:Nat),.int .i64 (n:Nat)] w2.drew fun x w'=>∃ g,x=.returned (.slice (some ⟨g,0,none⟩) (2^n) (2^n))/\LawF w' o4 (.slice (some ⟨g,0,none⟩) (2^n) (2^n)) (tabB n (varF kn))/\Below w2.drew.heap.size w2.drew w'):=Hd ((Zmx kn n hkn (by omega) w2.drew).mono fun x w' ⟨g,h1,h2,h3⟩=>⟨g,h1,Zxv h2 (by omega) (fun k hk=>HNO.out k (Nat.le_trans HB2.out.size hk)),h3⟩);clear hp ck0 ck1 hw2 hb2 hb2d HPL HBR g2 HIN cR;go_upto_region 17 with fail;rw[HW2.out];refine Zfb [0,1,2,3,4,5,6,7,8,9,10,11] (fun W=>W.cell? ⟨w.heap.size,0,none⟩=some (.int .i64 (n:Nat))/\W.cell? ⟨wr.heap.size,0,none⟩=some (.int .i64 pv)/\W.cell? ⟨wr.heap.size,1,none⟩=some (.int .i64 (kn:Nat))) (fun ch w'=>False) (fun c a w hd h=>h.elim) (by kernel_rfl) ⟨c2,e0,e1⟩ ?_
      iterate 7
       refine Zdd rfl rfl (by kernel_rfl) ?_;apply Exists.intro;refine⟨fun w' hw=>?_,?_⟩
       ·
        obtain⟨q1,q2,q3⟩:=hw;go_simp;rfl
       simp only[Zag]
      refine Zf3 (R1:=fun v w'=>∃ g,v=.slice (some ⟨g,0,none⟩) (2^n) (2^n)/\LawF w' o4 (.slice (some ⟨g,0,none⟩) (2^n) (2^n)) (tabB n (varF kn))/\Below w2.drew.heap.size w2.drew w') rfl (by kernel_rfl) rfl rfl (by go_simp) (HVR.out.mono fun e w' ⟨g,h1,h2⟩=>⟨_,h1,g,rfl,h2⟩) (fun v w' ⟨_,_,_,h⟩=>⟨(h.cell (p:=⟨w.heap.size,0,none⟩) (Zaa c2)).trans c2,(h.cell (p:=⟨wr.heap.size,0,none⟩) (Zaa e0)).trans e0,(h.cell (p:=⟨wr.heap.size,1,none⟩) (Zaa e1)).trans e1⟩) ?_;rintro v w4 ⟨f2,f0,f1⟩ ⟨g,rfl,hlf,hb4⟩;have HB4:Hid (Below w6.heap.size w6 w4):=Hd (HB2.out.trans (hb4.mono HB2.out.size));have HPL4:=Hd (HPL2.out.below hb4);have HF4:=Hd hlf;clear hlf hb4 HPL2 HB2 c2 e0 e1 HVR d0 d1;obtain⟨ys,y1,y2,y3⟩:=HPL4.out.ex;have HY1:=Hd y1;have HY2:=Hd y2;have HY3:=Hd y3;have hyl:ys.length<1099511627776:=by rw[y2];have:=HPLL.out;omega
      simp only[Zag];refine Zdd rfl rfl (by kernel_rfl) ?_;apply Exists.intro;refine⟨fun w' hw=>?_,?_⟩
      ·
       clear hw;go_simp;rfl
      simp only[Zag];have hbn:=Zac w4 (.cells #[.int .i64 pv,.slice (some ⟨g,0,none⟩) (2^n) (2^n)] 56);refine Zr0 (v:=.slice (some ⟨w4.heap.size,0,none⟩) 1 1) (w':=w4.alloc (.cells #[.int .i64 pv,.slice (some ⟨g,0,none⟩) (2^n) (2^n)] 56)) rfl (by kernel_rfl) rfl (by go_simp) ⟨(hbn.cell (p:=⟨w.heap.size,0,none⟩) (Zaa f2)).trans f2,(hbn.cell (p:=⟨wr.heap.size,0,none⟩) (Zaa f0)).trans f0,(hbn.cell (p:=⟨wr.heap.size,1,none⟩) (Zaa f1)).trans f1⟩ ?_;simp only[Zag];obtain⟨v6,w7,hr6,hown6,hb6,hs6,hk6⟩:=Zye Zic 57 w4 w6.heap.size w6 u19 ys (.int .i64 pv) (.slice (some ⟨g,0,none⟩) (2^n) (2^n)) ⟨rfl,rfl⟩ HY1.out hyl HB4.out.size HB4.out;have hne:∀ b,wr.heap.size=b->some b≠u19.ownBlock:=fun b hbb e=>by
       have:=(HPLB.out _ e.symm);omega
      have k2:w7.cell? ⟨w.heap.size,0,none⟩=some (.int .i64 (n:Nat)):=(hb6.cell (p:=⟨w.heap.size,0,none⟩) (Zaa HC6.out)).trans HC6.out;have k0:w7.cell? ⟨wr.heap.size,0,none⟩=some (.int .i64 pv):=(World.cell?_of_block (w:=w4) (a:=⟨wr.heap.size,0,none⟩) (hk6.keep _ (Zaa f0) (hne _ rfl))).trans f0;have k1:w7.cell? ⟨wr.heap.size,1,none⟩=some (.int .i64 (kn:Nat)):=(World.cell?_of_block (w:=w4) (a:=⟨wr.heap.size,1,none⟩) (hk6.keep _ (Zaa f1) (hne _ rfl))).trans f1;refine Zr0 (v:=v6) (w':=w7) rfl (by kernel_rfl) rfl (Zhx rfl rfl rfl hr6) ⟨k2,k0,k1⟩ ?_;simp only[Zag];refine Zdd rfl rfl (by kernel_rfl) ?_;apply Exists.intro;refine⟨fun w' hw=>?_,?_⟩
      ·
       clear hw;go_simp;rfl
      simp only[Zag];refine Zjs (by kernel_rfl) ?_
      have HPL6:Hid (PlF n w7 o4 w6.heap.size v6 (rnOf (ps.take (j+1)))):=Hd (by
       rw[HTK.out];exact PlF.app (p:=(pv,varF kn)) HY1.out HY2.out HY3.out HF4.out hown6 hk6)
      have HB6:=Hd hb6;clear hr6 hown6 hb6 hs6 hk6 hne k2 k0 k1 f2 f0 f1 hbn HY1 HY2 HY3 y1 y2 y3 HF4 HPL4 HB4 HTK HPLB;go_wp2_with fail;go_roundw
      case rel=>exact⟨j+1,by omega,by go_num,HPL6,HB6⟩
      case measure=>simp[intOf];omega
     ·
      obtain rfl:j=ps.length:=by omega
      have hjz:¬ (ps.length:Int)<(ps.length:Int):=by omega
      have HSR:=Hd (HS6.out.below HBR.out);have HPLR:Hid (PlF n wr o4 w6.heap.size u19 (rnOf ps)):=Hd (by have:=HPL.out;rwa [List.take_length] at this);obtain⟨ua,uc,rfl,hua⟩:=HSR.out.tab (r:=r1) (F:=F1) (by simp);obtain⟨xa,xc,rfl,hxa⟩:=HPLR.out.places (by simp[rnOf];omega) HSG.out.2.2.2.1
      have HPU:Hid (Calls Tryz.prog 32 #[.slice ua (2^n) uc,.slice xa (natL (rnOf ps)).length xc] wr fun e w'=>∃ v,e=.returned v/\Zbm w' v (tabB n G)/\Below wr.heap.size wr w'):=Hd (by
       refine(Zg8 n (by omega) F1 ua uc xa xc (natL (rnOf ps)) wr hua hxa HSG.out.2.1 HSG.out.2.2.1).mono ?_;rintro x w' ⟨v,rfl,h3,h4⟩;rw[HSG.out.1,<- HG.out] at h3;exact⟨v,rfl,h3,h4⟩)
      have HZR:=Hd (HZS6.out.below HBR.out);clear HPL HPLR hua hxa HS6 HST6 HPS6 HZS6 HC6 HNO HBR;go_wp2_with fail;refine HPU.out.mono ?_;rintro y w9 ⟨v9,rfl,hv9,hb9⟩;have HS9:=Hd (HSR.out.below hb9);have HZ9:=Hd (HZR.out.below hb9);have c9:=(hb9.cell (p:=⟨w.heap.size,0,none⟩) (Zaa cR)).trans cR;have HIS:=Hd (HS9.out.ask fun o m V hs=>Zml hs (by omega) (k:=nx) (F:=G) (by simp) hv9);clear hb9 hv9 HPU HSR HZR cR;go_wp2_with fail;refine HIS.out.mono ?_;rintro y wX ⟨b,rfl,hb,hb10⟩;obtain rfl:=hb.2 (by first|rfl|trivial);have HSX:=Hd (HS9.out.below hb10);have HZX:=Hd (HZ9.out.below hb10);have cX:=(hb10.cell (p:=⟨w.heap.size,0,none⟩) (Zaa c9)).trans c9;obtain⟨fX,hfX⟩:∃ l,l=two++hs++[(nx,G)]:=⟨_,rfl⟩;obtain⟨nX,hnX⟩:∃ z,z=nx+1:=⟨_,rfl⟩;obtain⟨NX,hNX⟩:∃ N:Nat,N=hs.length+1:=⟨_,rfl⟩;have HFL:Hid (fX.length=NX+2):=Hd (by rw[hfX,hNX];simp[two]<;>omega);have HMX:Hid ((a1,F1)∈fX):=Hd (by rw[hfX];exact List.mem_append_left _ HM1.out);have hN6:NX<=6:=by omega
      have hnX6:nX<=500000000000:=by omega
      have HNZ:Hid (((hs.length:Nat):Int)+1=(NX:Int)):=Hd (by omega);rw[<- hfX,<- hnX] at HSX;clear hfX hnX hNX hb hb10 HIS HS9 HZ9 c9;go_wp2_with fail;rw[HNZ.out];clear HNZ
      go_loopw [22,24,106] (fun s22 _ s106 wr=>∃ (j:Nat) (e:Int),j<=zs.length/\s106=.int .i64 j/\s22=.int .i64 e/\wr=wX/\Hid ((e=0/\∀ q,q<j->0<=at0 zs q/\at0 zs q<(n:Int))\/(e=9/\∃ q,q<j/\¬ (0<=at0 zs q/\at0 zs q<(n:Int))))) (fun _ _ s106 _=>zs.length-(intOf s106).toNat)
      case atStart=>exact⟨0,0,Nat.zero_le _,rfl,rfl,rfl,Hd (.inl ⟨rfl,fun q hq=>by omega⟩)⟩
      case round =>
       obtain⟨j,e,hj,rfl,rfl,rfl,HE⟩:=hrel
       by_cases hlt:j<zs.length
       ·
        have hjz:(j:Int)<(zs.length:Int):=by omega
        obtain⟨b,off,rfl,ck⟩:=HZX.out.cells j hlt;obtain⟨z,hz⟩:∃ z,z=at0 zs j:=⟨_,rfl⟩;rw[<- hz] at ck;have HOK:Hid (0<=z->z<(n:Int)->(e=0/\∀ q,q<j+1->0<=at0 zs q/\at0 zs q<(n:Int))\/(e=9/\∃ q,q<j+1/\¬ (0<=at0 zs q/\at0 zs q<(n:Int)))):=Hd fun h1 h2=>by
         rcases HE.out with ⟨h3,h4⟩|⟨h3,q,h4,h5⟩
         ·
          refine .inl ⟨h3,fun q hq=>?_⟩;rcases Nat.lt_or_ge q j with c|c
          ·
           exact h4 q c
          ·
           obtain rfl:q=j:=by omega
           rw[<- hz];exact⟨h1,h2⟩
         ·
          exact .inr ⟨h3,q,by omega,h5⟩
        have HNO9:Hid (¬ (0<=z/\z<(n:Int))->((9:Int)=0/\∀ q,q<j+1->0<=at0 zs q/\at0 zs q<(n:Int))\/((9:Int)=9/\∃ q,q<j+1/\¬ (0<=at0 zs q/\at0 zs q<(n:Int)))):=Hd fun h1=>.inr ⟨rfl,j,by omega,by rw[<- hz];exact h1⟩
        clear hz HE
        by_cases hz0:z<0
        ·
         have HN9:=Hd (HNO9.out (by omega));clear HNO9 HOK;go_wp2_with fail;go_roundw
         case rel=>exact⟨j+1,9,by omega,by go_num,rfl,by trivial,HN9⟩
         case measure=>simp[intOf];omega
        ·
         by_cases hz1:z>=(n:Int)
         ·
          have HN9:=Hd (HNO9.out (by omega));clear HNO9 HOK;go_wp2_with fail;go_roundw
          case rel=>exact⟨j+1,9,by omega,by go_num,rfl,by trivial,HN9⟩
          case measure=>simp[intOf];omega
         ·
          have HN9:=Hd (HOK.out (by omega) (by omega));clear HNO9 HOK;go_wp2_with fail;go_roundw
          case rel=>exact⟨j+1,e,by omega,by go_num,rfl,by trivial,HN9⟩
          case measure=>simp[intOf];omega
       ·
        obtain rfl:j=zs.length:=by omega
        have hjz:¬ (zs.length:Int)<(zs.length:Int):=by omega
        rcases HE.out with ⟨rfl,hall⟩|⟨rfl,qb,hqb,hbad⟩
        ·
         have HALL:Hid (∀ v∈zs,0<=v/\v<(n:Int)):=Hd fun v hv=>by
          obtain⟨q,hq,rfl⟩:=List.getElem_of_mem hv;have:=hall q hq
          rwa [Zbq hq] at this
         have HFP:=Hd (HSX.out.flip_ok Zbn HMX.out (c:=zc) HZX.out HALL.out (by omega) (HRM.out _ (by have:=HFL.out;omega)));clear hall HE;go_wp2_with fail;refine HFP.out.mono ?_;rintro y wY ⟨rfl,hst⟩;have HSY:=Hd hst;have hb0Y:=HSY.out.below0;have cY:=(hb0Y.cell (p:=⟨w.heap.size,0,none⟩) (Zaa HCB.out)).trans HCB.out;obtain⟨ua',uc',e1,hua⟩:=HSY.out.tab (r:=.slice ua (2^n) uc) (F:=F1) (by simp);injection e1 with e1 e3 e5
         subst e1;subst e5
         clear e3;have HRF:=Hd (Zk7 n (by omega) F1 ua uc za zc zs wY hua (HZS0.out.below (HBB.out.trans (hb0Y.mono HBB.out.size))) (by omega) HALL.out);clear hst HFP hua hb0Y;go_wp2_with fail;refine HRF.out.mono ?_;rintro y w9 ⟨v9,rfl,hv9,hb9⟩;have HS9:=Hd (HSY.out.below hb9);have HIS:=Hd (HS9.out.ask fun o m V hs=>Zml hs (by omega) (k:=nX) (F:=Zbd (sigF zs) F1) (by simp) hv9);clear hb9 hv9 HRF HSY;go_wp2_with fail;refine HIS.out.mono ?_;rintro y w10 ⟨b,rfl,hb,hb10⟩;obtain rfl:=hb.2 (by first|rfl|trivial);have HS10:=Hd (HS9.out.below hb10);have HLF:Hid (Calls Tryz.prog 30 #[.pointer (some ⟨mb,0,none⟩),.int .i64 ((NX:Nat)+1)] w10 fun x w'=>x=.returned (.bool true)/\w10=w'):=Hd (HS10.out.left (NX+1) (by omega) (by simp;have:=HFL.out;omega));have HB12:=Hd HS10.out.below0;have HLV:=Hd (Zbi w10);clear hb hb10 HIS HS9;go_wp2_with fail;refine HLF.out.mono ?_;rintro y w' ⟨rfl,rfl⟩;go_wp2_with fail;refine HLV.out.mono ?_;rintro y w11 ⟨rfl,hb11⟩;have HFN:=Hd (HBB.out.trans ((HB12.out.trans (hb11.mono HB12.out.size)).mono HBB.out.size));clear hb11 HLV HLF;go_wp2_with fail;go_ret;exact⟨rfl,HFN.out⟩
        ·
         have HBAD:Hid (∃ v∈zs,¬ (0<=v/\v<(n:Int))):=Hd ⟨at0 zs qb,by rw[Zbq hqb];exact List.getElem_mem hqb,hbad⟩;have HFP:=Hd (HSX.out.flip_no Zbn HMX.out (c:=zc) HZX.out HBAD.out (by omega) (HRM.out _ (by have:=HFL.out;omega)));clear hbad HE HBAD;go_wp2_with fail;refine HFP.out.mono ?_;rintro y w10 ⟨rfl,hbY⟩;have HS10:=Hd (HSX.out.below hbY);have HLF:Hid (Calls Tryz.prog 30 #[.pointer (some ⟨mb,0,none⟩),.int .i64 (NX:Nat)] w10 fun x w'=>x=.returned (.bool true)/\w10=w'):=Hd (HS10.out.left NX (by omega) (by have:=HFL.out;omega));have HB12:=Hd HS10.out.below0;have HLV:=Hd (Zbi w10);clear hbY HFP;go_wp2_with fail;refine HLF.out.mono ?_;rintro y w' ⟨rfl,rfl⟩;go_wp2_with fail;refine HLV.out.mono ?_;rintro y w11 ⟨rfl,hb11⟩;have HFN:=Hd (HBB.out.trans ((HB12.out.trans (hb11.mono HB12.out.size)).mono HBB.out.size));clear hb11 HLV HLF;go_wp2_with fail;go_ret;exact⟨rfl,HFN.out⟩
   ·
    have HVC2:Hid (Calls Tryz.prog 38 #[.pointer (some ⟨mb,0,none⟩),.int .i64 a1,.slice pa ps.length pc] w5 fun x w'=>x=.returned (.tuple #[.int .i64 0,.int .i64 er])/\Below w5.heap.size w5 w'):=Hd (HVC.out.mono fun x w' hx=>hx.2 her0)
    have HS5:=Hd (StF.of (rs:=[(r1,F1)]) HL5.out.st HL5.out.sat (by
     intro p hp;simp only[List.mem_cons,List.not_mem_nil,or_false] at hp;subst hp;exact HF15.out))
    have hne1:(er == 0)=false:=by simpa using her0
    clear HVC HER her0 HF15 HL5 HPS5;go_wp2_with fail;refine HVC2.out.mono ?_;rintro y wX ⟨rfl,hb6⟩;have HSX:=Hd (HS5.out.below hb6);have HZX:=Hd (HZS5.out.below hb6);have cX:=(hb6.cell (p:=⟨w.heap.size,0,none⟩) (Zaa c5)).trans c5;obtain⟨ua,uc,rfl,_⟩:=HSX.out.tab (r:=r1) (F:=F1) (by simp);obtain⟨fX,hfX⟩:∃ l,l=two++hs:=⟨_,rfl⟩;obtain⟨nX,hnX⟩:∃ z,z=nx:=⟨_,rfl⟩;obtain⟨NX,hNX⟩:∃ N:Nat,N=hs.length:=⟨_,rfl⟩;have HFL:Hid (fX.length=NX+2):=Hd (by rw[hfX,hNX];simp[two]<;>omega);have HMX:Hid ((a1,F1)∈fX):=Hd (by rw[hfX];exact HM1.out);have hN6:NX<=6:=by omega
    have hnX6:nX<=500000000000:=by omega
    have HNZ:Hid (((hs.length:Nat):Int)=(NX:Int)):=Hd (by rw[hNX]);rw[<- hfX,<- hnX] at HSX;clear hfX hnX hNX hb6 HVC2 HS5 HZS5 c5;go_wp2_with fail;rw[HNZ.out];clear HNZ
    go_loopw [22,24,106] (fun s22 _ s106 wr=>∃ (j:Nat) (e:Int),j<=zs.length/\s106=.int .i64 j/\s22=.int .i64 e/\wr=wX/\Hid ((e=0/\∀ q,q<j->0<=at0 zs q/\at0 zs q<(n:Int))\/(e=9/\∃ q,q<j/\¬ (0<=at0 zs q/\at0 zs q<(n:Int))))) (fun _ _ s106 _=>zs.length-(intOf s106).toNat)
    case atStart=>exact⟨0,0,Nat.zero_le _,rfl,rfl,rfl,Hd (.inl ⟨rfl,fun q hq=>by omega⟩)⟩
    case round =>
     obtain⟨j,e,hj,rfl,rfl,rfl,HE⟩:=hrel
     by_cases hlt:j<zs.length
     ·
      have hjz:(j:Int)<(zs.length:Int):=by omega
      obtain⟨b,off,rfl,ck⟩:=HZX.out.cells j hlt;obtain⟨z,hz⟩:∃ z,z=at0 zs j:=⟨_,rfl⟩;rw[<- hz] at ck;have HOK:Hid (0<=z->z<(n:Int)->(e=0/\∀ q,q<j+1->0<=at0 zs q/\at0 zs q<(n:Int))\/(e=9/\∃ q,q<j+1/\¬ (0<=at0 zs q/\at0 zs q<(n:Int)))):=Hd fun h1 h2=>by
       rcases HE.out with ⟨h3,h4⟩|⟨h3,q,h4,h5⟩
       ·
        refine .inl ⟨h3,fun q hq=>?_⟩;rcases Nat.lt_or_ge q j with c|c
        ·
         exact h4 q c
        ·
         obtain rfl:q=j:=by omega
         rw[<- hz];exact⟨h1,h2⟩
       ·
        exact .inr ⟨h3,q,by omega,h5⟩
      have HNO9:Hid (¬ (0<=z/\z<(n:Int))->((9:Int)=0/\∀ q,q<j+1->0<=at0 zs q/\at0 zs q<(n:Int))\/((9:Int)=9/\∃ q,q<j+1/\¬ (0<=at0 zs q/\at0 zs q<(n:Int)))):=Hd fun h1=>.inr ⟨rfl,j,by omega,by rw[<- hz];exact h1⟩
      clear hz HE
      by_cases hz0:z<0
      ·
       have HN9:=Hd (HNO9.out (by omega));clear HNO9 HOK;go_wp2_with fail;go_roundw
       case rel=>exact⟨j+1,9,by omega,by go_num,rfl,by trivial,HN9⟩
       case measure=>simp[intOf];omega
      ·
       by_cases hz1:z>=(n:Int)
       ·
        have HN9:=Hd (HNO9.out (by omega));clear HNO9 HOK;go_wp2_with fail;go_roundw
        case rel=>exact⟨j+1,9,by omega,by go_num,rfl,by trivial,HN9⟩
        case measure=>simp[intOf];omega
       ·
        have HN9:=Hd (HOK.out (by omega) (by omega));clear HNO9 HOK;go_wp2_with fail;go_roundw
        case rel=>exact⟨j+1,e,by omega,by go_num,rfl,by trivial,HN9⟩
        case measure=>simp[intOf];omega
     ·
      obtain rfl:j=zs.length:=by omega
      have hjz:¬ (zs.length:Int)<(zs.length:Int):=by omega
      rcases HE.out with ⟨rfl,hall⟩|⟨rfl,qb,hqb,hbad⟩
      ·
       have HALL:Hid (∀ v∈zs,0<=v/\v<(n:Int)):=Hd fun v hv=>by
        obtain⟨q,hq,rfl⟩:=List.getElem_of_mem hv;have:=hall q hq
        rwa [Zbq hq] at this
       have HFP:=Hd (HSX.out.flip_ok Zbn HMX.out (c:=zc) HZX.out HALL.out (by omega) (HRM.out _ (by have:=HFL.out;omega)));clear hall HE;go_wp2_with fail;refine HFP.out.mono ?_;rintro y wY ⟨rfl,hst⟩;have HSY:=Hd hst;have hb0Y:=HSY.out.below0;have cY:=(hb0Y.cell (p:=⟨w.heap.size,0,none⟩) (Zaa HCB.out)).trans HCB.out;obtain⟨ua',uc',e1,hua⟩:=HSY.out.tab (r:=.slice ua (2^n) uc) (F:=F1) (by simp);injection e1 with e1 e3 e5
       subst e1;subst e5
       clear e3;have HRF:=Hd (Zk7 n (by omega) F1 ua uc za zc zs wY hua (HZS0.out.below (HBB.out.trans (hb0Y.mono HBB.out.size))) (by omega) HALL.out);clear hst HFP hua hb0Y;go_wp2_with fail;refine HRF.out.mono ?_;rintro y w9 ⟨v9,rfl,hv9,hb9⟩;have HS9:=Hd (HSY.out.below hb9);have HIS:=Hd (HS9.out.ask fun o m V hs=>Zml hs (by omega) (k:=nX) (F:=Zbd (sigF zs) F1) (by simp) hv9);clear hb9 hv9 HRF HSY;go_wp2_with fail;refine HIS.out.mono ?_;rintro y w10 ⟨b,rfl,hb,hb10⟩;obtain rfl:=hb.2 (by first|rfl|trivial);have HS10:=Hd (HS9.out.below hb10);have HLF:Hid (Calls Tryz.prog 30 #[.pointer (some ⟨mb,0,none⟩),.int .i64 ((NX:Nat)+1)] w10 fun x w'=>x=.returned (.bool true)/\w10=w'):=Hd (HS10.out.left (NX+1) (by omega) (by simp;have:=HFL.out;omega));have HB12:=Hd HS10.out.below0;have HLV:=Hd (Zbi w10);clear hb hb10 HIS HS9;go_wp2_with fail;refine HLF.out.mono ?_;rintro y w' ⟨rfl,rfl⟩;go_wp2_with fail;refine HLV.out.mono ?_;rintro y w11 ⟨rfl,hb11⟩;have HFN:=Hd (HBB.out.trans ((HB12.out.trans (hb11.mono HB12.out.size)).mono HBB.out.size));clear hb11 HLV HLF;go_wp2_with fail;go_ret;exact⟨rfl,HFN.out⟩
      ·
       have HBAD:Hid (∃ v∈zs,¬ (0<=v/\v<(n:Int))):=Hd ⟨at0 zs qb,by rw[Zbq hqb];exact List.getElem_mem hqb,hbad⟩;have HFP:=Hd (HSX.out.flip_no Zbn HMX.out (c:=zc) HZX.out HBAD.out (by omega) (HRM.out _ (by have:=HFL.out;omega)));clear hbad HE HBAD;go_wp2_with fail;refine HFP.out.mono ?_;rintro y w10 ⟨rfl,hbY⟩;have HS10:=Hd (HSX.out.below hbY);have HLF:Hid (Calls Tryz.prog 30 #[.pointer (some ⟨mb,0,none⟩),.int .i64 (NX:Nat)] w10 fun x w'=>x=.returned (.bool true)/\w10=w'):=Hd (HS10.out.left NX (by omega) (by have:=HFL.out;omega));have HB12:=Hd HS10.out.below0;have HLV:=Hd (Zbi w10);clear hbY HFP;go_wp2_with fail;refine HLF.out.mono ?_;rintro y w' ⟨rfl,rfl⟩;go_wp2_with fail;refine HLV.out.mono ?_;rintro y w11 ⟨rfl,hb11⟩;have HFN:=Hd (HBB.out.trans ((HB12.out.trans (hb11.mono HB12.out.size)).mono HBB.out.size));clear hb11 HLV HLF;go_wp2_with fail;go_ret;exact⟨rfl,HFN.out⟩
end Go.Proofs.YtmofaapnkidioaaGreat
