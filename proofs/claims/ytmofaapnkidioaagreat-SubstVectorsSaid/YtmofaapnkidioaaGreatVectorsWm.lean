/- The walk of a law: VectorsW. -/
import Derived.Test.YtmofaapnkidioaaGreatQ8
set_option linter.unusedSimpArgs false
set_option linter.unusedVariables false
set_option linter.unusedSectionVars false
set_option linter.unnecessarySimpa false
set_option maxRecDepth 100000
set_option maxHeartbeats 8000000
namespace Go.Proofs.YtmofaapnkidioaaGreat
open Go.RowKit
theorem vectors_walk (q:AskD) (ao ae ap:Option Addr) (co ce cp:Nat) (kf:Int) (pa:Option Addr) (pc:Nat) (ps:List (Int×Int)) (w:World) (h:AskAt w q ao ae ap) (hps:Zdc w pa ps) :
 Calls Tryz.prog 6 #[askV q ao ae ap co ce cp,.int .i64 kf,.slice pa ps.length pc] w fun y w'=>y=.returned (.bool true)/\Below w.heap.size w w':=by
 have HSM:Hid (∀ W,Below w.heap.size w W->∀ u,u=askV q ao ae ap co ce cp->Calls Tryz.prog 15 #[u] W fun y w'=>∃ b,y=.returned (.bool b)/\(b=true->Zgc q)/\Below W.heap.size W w'):=Hd fun W hb u hu=>by subst hu;exact Zit q ao ae ap co ce cp W (h.below hb)
 have HST:Hid (∀ W n,Below w.heap.size w W->Zgc q->q.vars=(n:Nat)->∀ u,u=askV q ao ae ap co ce cp->Calls Tryz.prog 17 #[u] W (SetP Zhj q n W)):=Hd fun W n hb hs hn u hu=>by subst hu;exact Zis Zbn q ao ae ap co ce cp W (h.below hb) hs n hn
 obtain⟨vars,hvars⟩:∃ z,z=q.vars:=⟨_,rfl⟩;have HV:=Hd hvars;obtain⟨plen,hplen⟩:∃ z,z=q.plan.length:=⟨_,rfl⟩;unfold askV at HSM HST ⊢;rw[<- hvars,<- hplen] at HSM HST ⊢;obtain⟨olen,holen⟩:∃ z,z=q.order.length:=⟨_,rfl⟩;obtain⟨elen,helen⟩:∃ z,z=q.es.length:=⟨_,rfl⟩;rw[<- holen,<- helen] at HSM HST ⊢;obtain⟨w1,hw1⟩:∃ w1,w1=w.alloc (.cells #[.int .i64 vars,.slice ao olen co,.slice ae elen ce,.slice ap plen cp] 26):=⟨_,rfl⟩;have HW1:Hid (_=w1):=Hd hw1.symm;have HB1:Hid (Below w.heap.size w w1):=by rw[hw1];exact Hd (Zac _ _)
 have hblk:w1.heap[w.heap.size]?=some (.cells #[.int .i64 vars,.slice ao olen co,.slice ae elen ce,.slice ap plen cp] 26 (0,0)):=by rw[hw1];exact heap_alloc_new _ _
 have d0:w1.cell? ⟨w.heap.size,0,none⟩=some (.int .i64 vars):=by rw[cell_of_row _ _ 0 _ _ _ hblk];rfl
 have d1:w1.cell? ⟨w.heap.size,1,none⟩=some (.slice ao olen co):=by rw[cell_of_row _ _ 1 _ _ _ hblk];rfl
 have d2:w1.cell? ⟨w.heap.size,2,none⟩=some (.slice ae elen ce):=by rw[cell_of_row _ _ 2 _ _ _ hblk];rfl
 have d3:w1.cell? ⟨w.heap.size,3,none⟩=some (.slice ap plen cp):=by rw[cell_of_row _ _ 3 _ _ _ hblk];rfl
 have HPS:=Hd hps;have hpsl:=hps.len;clear h hw1 hblk hvars hplen holen helen hps
 go_enter Tryz.func6,Tryz.ntmps6
 go_upto_region 1 with fail;rw[HW1.out];go_wp2_with fail;refine(HSM.out _ HB1.out _ rfl).mono ?_;rintro y w2 ⟨b,rfl,hb,hbel⟩;have HB:=Hd hb;have HBEL:=Hd (HB1.out.trans (hbel.mono HB1.out.size));have e0:=(hbel.cell (p:=⟨w.heap.size,0,none⟩) (Zaa d0)).trans d0;have e1:=(hbel.cell (p:=⟨w.heap.size,1,none⟩) (Zaa d1)).trans d1;have e2:=(hbel.cell (p:=⟨w.heap.size,2,none⟩) (Zaa d2)).trans d2;have e3:=(hbel.cell (p:=⟨w.heap.size,3,none⟩) (Zaa d3)).trans d3;have HLV:=Hd (Zbi w2);clear hb hbel HSM d0 d1 d2 d3 HW1;cases b with
 | false =>
   go_wp2_with fail;refine HLV.out.mono ?_;rintro y w3 ⟨rfl,hb3⟩;have HB3:=Hd (HBEL.out.trans (hb3.mono HBEL.out.size));clear hb3;go_wp2_with fail;go_ret;exact⟨rfl,HB3.out⟩
 | true =>
   by_cases hlen:(ps.length:Int)>8
   ·
    go_wp2_with fail;refine HLV.out.mono ?_;rintro y w3 ⟨rfl,hb3⟩;have HB3:=Hd (HBEL.out.trans (hb3.mono HBEL.out.size));clear hb3;go_wp2_with fail;go_ret;exact⟨rfl,HB3.out⟩
   have HSP:=Hd (HB.out (by first|rfl|trivial));obtain⟨n,hn⟩:∃ n:Nat,vars=(n:Nat):=⟨vars.toNat,by have:=HSP.out.lo;have:=HV.out;omega⟩;subst hn;have hn6:n<=6:=by have:=HSP.out.hi;have:=HV.out;omega
   have hn1:1<=n:=by have:=HSP.out.lo;have:=HV.out;omega
   have hes:q.es.length<=5:=HSP.out.es;have HSET:=Hd (HST.out w2 n HBEL.out HSP.out rfl _ rfl);clear HST HLV HB;go_wp2_with fail;refine HSET.out.mono ?_;rintro y w3 ⟨mb,vl,vx,wb,hs,nx,rfl,hbw,hsnd,hnx,o3,m3,V3,lt3,-⟩;have hhl:hs.length<=5:=by have:=congrArg List.length hsnd;simp at this;omega
   obtain⟨al,cl,hvl⟩:∃ a c,vl=.slice a hs.length c:=by
    obtain⟨a,c,e,_⟩:=lt3.l.own.slice;exact⟨a,c,by rw[e];simp[Zba]⟩
   subst hvl;have HSUB:Hid (∀ p∈hs,p∈two++hs):=Hd fun p hp=>List.mem_append_right _ hp
   have hfl:(two++hs).length=2+hs.length:=by simp[two];omega
   have HROOM:Hid (∀ k,k<=192->k*2^n<=Zcd n):=Hd fun k hk=>Zey hk
   have HCB:Hid (wb.cell? ⟨w.heap.size,0,none⟩=some (.int .i64 (n:Nat))):=Hd ((hbw.cell (p:=⟨w.heap.size,0,none⟩) (Zaa e0)).trans e0);have c0:=(lt3.below0.cell (p:=⟨w.heap.size,0,none⟩) (Zaa ((hbw.cell (p:=⟨w.heap.size,0,none⟩) (Zaa e0)).trans e0))).trans ((hbw.cell (p:=⟨w.heap.size,0,none⟩) (Zaa e0)).trans e0);have HBB:Hid (Below w.heap.size w wb):=Hd (HBEL.out.trans (hbw.mono HBEL.out.size));have HRG:Hid (∀ p∈two++hs,p.1<nx):=Hd fun p hp=>(lt3.sat.range p hp).2
   have HL:=Hd ((lt3.withOd (Od':=fun _=>True) trivial).withSt (Wt':=SufW q.plan) (by rw[lt3.st.1];exact List.suffix_refl _));clear lt3 hbw hsnd HSET e0 e1 e2 e3;have h8:ps.length<=8:=by omega
   have HP1:=Hd (Zi9 HL.out HSUB.out (by omega) (by omega) kf);go_wp2_with fail;refine HP1.out.mono ?_;rintro y wA ⟨a1,F1,r1,rfl,hm1,hf1,hbA⟩;have HLA:=Hd (HL.out.below hbA);have HF1:=Hd hf1;have HM1:=Hd hm1;have HBWA:Hid (Below w.heap.size w wA):=Hd (HBB.out.trans (HLA.out.below0.mono HBB.out.size));have HPSA:=Hd (HPS.out.below (b0:=0) HBWA.out);have HCA:Hid (wA.cell? ⟨w.heap.size,0,none⟩=some (.int .i64 (n:Nat))):=Hd ((hbA.cell (p:=⟨w.heap.size,0,none⟩) (Zaa c0)).trans c0);have HNO:Hid (∀ k,wA.heap.size<=k->o3 k=none):=Hd fun k hk=>HLA.out.sat.lt.none hk
   have HONE:Hid (∀ W k,Below wA.heap.size wA W->Calls Tryz.prog 28 #[.int .i64 n,.slice al hs.length cl,vx,.int .i64 k] W fun x w'=>∃ a F v,x=.returned (.tuple #[.int .i64 a,v])/\(a,F)∈two++hs/\LawF w' o3 v (tabB n F)/\Below W.heap.size W w'):=Hd fun W k hb=>Zi9 (HLA.out.below hb) HSUB.out (by omega) (by omega) k
   have HRGE:Hid (∀ p∈two++hs,0<=p.1):=Hd fun p hp=>(HLA.out.sat.range p hp).1
   have HQ0:Hid (PlF n wA o3 wA.heap.size (.slice none 0 0) (plOf [])):=Hd (Zv5 n wA o3 wA.heap.size);have HR0:Hid (OwnP 66 wA wA.heap.size (.slice none 0 0) (prOf [])):=Hd (Zno _ _ _);have HB0:Hid (Below wA.heap.size wA wA):=Hd (Below.refl _ _);clear hf1 hbA HP1 HL c0 hm1 HPS;go_wp2_with fail
   go_loopw [13,14,16,17,18,51] (fun s13 s14 _ _ _ s51 wr=>∃ (j:Nat) (ts:List (Int×Int×BF)),j<=ps.length/\s51=.int .i64 j/\Hid (ts.length=j)/\Hid (PlF n wr o3 wA.heap.size s13 (plOf ts))/\Hid (OwnP 66 wr wA.heap.size s14 (prOf ts))/\Hid (Below wA.heap.size wA wr)/\Hid (∀ t∈ts,known (two++hs) t.2.1->(t.2.1,t.2.2)∈two++hs)) (fun _ _ _ _ _ s51 _=>ps.length-(intOf s51).toNat)
   case atStart=>exact⟨0,[],Nat.zero_le _,rfl,Hd rfl,HQ0,HR0,HB0,Hd fun t ht=>by simp at ht⟩
   case round =>
    clear HQ0 HR0 HB0;obtain⟨j,ts,hj,rfl,HTL,HPL,HPR,HBR,HKN⟩:=hrel;have cR:=(HBR.out.cell (p:=⟨w.heap.size,0,none⟩) (Zaa HCA.out)).trans HCA.out
    by_cases hlt:j<ps.length
    ·
     have hjz:(j:Int)<(ps.length:Int):=by omega
     obtain⟨b,off,rfl,ck0,ck1⟩:=HPSA.out.cells j hlt;have d0:=(HBR.out.cell (p:=⟨b,off+j*2,none⟩) (Zaa ck0)).trans ck0;have d1:=(HBR.out.cell (p:=⟨b,off+j*2+1,none⟩) (Zaa ck1)).trans ck1;obtain⟨p,hp⟩:∃ p,p=ps[j]:=⟨_,rfl⟩;rw[<- hp] at d0 d1;obtain⟨pv,pk⟩:=p;dsimp only at d0 d1;obtain⟨w2,hw2⟩:∃ w2,w2=wr.alloc (.cells #[.int .i64 pv,.int .i64 pk] 66):=⟨_,rfl⟩;have HW2:Hid (_=w2):=Hd hw2.symm;have hb2:Below wr.heap.size wr w2:=by rw[hw2];exact Zac _ _
     have g2:w2.heap[wr.heap.size]?=some (.cells #[.int .i64 pv,.int .i64 pk] 66 (0,0)):=by rw[hw2];exact heap_alloc_new _ _
     have e0:w2.cell? ⟨wr.heap.size,0,none⟩=some (.int .i64 pv):=by simp[World.cell?,g2]
     have e1:w2.cell? ⟨wr.heap.size,1,none⟩=some (.int .i64 pk):=by simp[World.cell?,g2]
     have c2:=(hb2.cell (p:=⟨w.heap.size,0,none⟩) (Zaa cR)).trans cR;have HB2:Hid (Below wA.heap.size wA w2):=Hd (HBR.out.trans (hb2.mono HBR.out.size));have HO2:=Hd (HONE.out w2 pk HB2.out);have HNB:Hid (some wr.heap.size≠u14.ownBlock):=Hd fun e=>by have:=(HPR.out.lt _ e.symm).2;omega
     have HPL2:=Hd (HPL.out.below hb2);have HPR2:=Hd (HPR.out.below hb2);clear hp ck0 ck1 hw2 hb2 HPL HPR HBR g2;go_upto_region 12 with fail;rw[HW2.out];go_wp2_with fail;refine HO2.out.mono ?_;rintro y w4 ⟨a2,F2,r2,rfl,hm2,hf2,hb4⟩;have f0:=(hb4.cell (p:=⟨wr.heap.size,0,none⟩) (Zaa e0)).trans e0;have f1:=(hb4.cell (p:=⟨wr.heap.size,1,none⟩) (Zaa e1)).trans e1;have HB4:Hid (Below wA.heap.size wA w4):=Hd (HB2.out.trans (hb4.mono HB2.out.size));have HPL4:=Hd (HPL2.out.below hb4);have HPR4:=Hd (HPR2.out.below hb4);have HF4:=Hd hf2;have HM2:=Hd hm2;obtain⟨ta,tc,rfl,_⟩:=HF4.out.tab;clear hb4 hf2 hm2 HPL2 HPR2 HB2 e0 e1 cR c2 d0 d1 HO2 HW2;obtain⟨tv,hto⟩:∃ tv,tv=if pk<0 then pk else a2:=⟨_,rfl⟩
     have HKT:Hid (known (two++hs) tv->(tv,F2)∈two++hs):=Hd fun hk=>by
      rw[hto] at hk ⊢
      by_cases c:pk<0
      ·
       rw[if_pos c] at hk ⊢;obtain⟨G,hG⟩:=hk;have:=HRGE.out _ hG;exact absurd this (by simp only;omega)
      ·
       rw[if_neg c];exact HM2.out
     by_cases hpk:pk<0
     ·
      rw[if_pos hpk] at hto;subst hto;have Htv:Hid (∀ t∈ts++[(pv,tv,F2)],known (two++hs) t.2.1->(t.2.1,t.2.2)∈two++hs):=Hd fun t ht=>by
       rcases List.mem_append.1 ht with h|h
       ·
        exact HKN.out t h
       ·
        simp only[List.mem_singleton] at h;subst h;exact HKT.out
      have hrl:(prOf ts).length<1099511627776:=by simp[prOf,psOf];have:=HTL.out;omega
      clear HKN HKT HM2;go_upto_region 16 with (at_builtin;refine Ze2 Zrs w4 rfl _ _ rfl wA.heap.size wA u14 (prOf ts) (.int .i64 pv) (.int .i64 tv) rfl rfl rfl rfl ⟨rfl,rfl⟩ HPR4.out hrl HB4.out.size HB4.out ?_;intro v5 w5 hown hb5 hs5 hk5)
      have f05:w5.cell? ⟨wr.heap.size,0,none⟩=some (.int .i64 pv):=(World.cell?_of_block (w:=w4) (a:=⟨wr.heap.size,0,none⟩) (hk5.keep _ (Zaa f0) HNB.out)).trans f0;have HB5:=Hd hb5
      have HPR5:Hid (OwnP 66 w5 wA.heap.size v5 (prOf (ts++[(pv,tv,F2)]))):=Hd (by
       rw[show prOf (ts++[(pv,tv,F2)])=prOf ts++[(.int .i64 pv,.int .i64 tv)] by simp[prOf,psOf]];exact hown)
      have HPL5:=Hd (HPL4.out.other HPR4.out (by decide) (by decide) hk5);have HF5:=Hd (HF4.out.same (Zh6 HPR4.out (by decide) hk5));obtain⟨ys,y1,y2,y3⟩:=HPL5.out.ex;have HY1:=Hd y1;have HY2:=Hd y2;have HY3:=Hd y3;have hyl:ys.length<1099511627776:=by rw[y2];simp[plOf];have:=HTL.out;omega
      clear hown hb5 hs5 hk5 y1 y2 y3 HPL4 HPR4 HF4 HB4 f0 f1 hrl;go_wp2_with (at_builtin;refine Ze2 Zic w5 rfl _ _ rfl wA.heap.size wA u13 ys (.int .i64 pv) (.slice ta (2^n) tc) rfl rfl rfl rfl ⟨rfl,rfl⟩ HY1.out hyl HB5.out.size HB5.out ?_;intro v6 w6 hown hb6 hs6 hk6);have HPR6:=Hd (HPR5.out.other HY1.out (by decide) hk6)
      have HPL6:Hid (PlF n w6 o3 wA.heap.size v6 (plOf (ts++[(pv,tv,F2)]))):=Hd (by
       rw[show plOf (ts++[(pv,tv,F2)])=plOf ts++[(pv,F2)] by simp[plOf]];exact PlF.app (p:=(pv,F2)) HY1.out HY2.out HY3.out HF5.out hown hk6)
      have HB6:=Hd hb6;have HTL6:Hid ((ts++[(pv,tv,F2)]).length=j+1):=Hd (by simp;exact HTL.out);clear hown hb6 hs6 hk6 HY1 HY2 HY3 HF5 HPL5 HPR5 HB5 HTL f05;go_wp2_with fail;go_roundw
      case rel=>exact⟨j+1,ts++[(pv,tv,F2)],by omega,by go_num,HTL6,HPL6,HPR6,HB6,Htv⟩
      case measure=>simp[intOf];omega
     ·
      rw[if_neg hpk] at hto;subst hto;have Htv:Hid (∀ t∈ts++[(pv,tv,F2)],known (two++hs) t.2.1->(t.2.1,t.2.2)∈two++hs):=Hd fun t ht=>by
       rcases List.mem_append.1 ht with h|h
       ·
        exact HKN.out t h
       ·
        simp only[List.mem_singleton] at h;subst h;exact HKT.out
      have hrl:(prOf ts).length<1099511627776:=by simp[prOf,psOf];have:=HTL.out;omega
      clear HKN HKT HM2;go_upto_region 16 with (at_builtin;refine Ze2 Zrs w4 rfl _ _ rfl wA.heap.size wA u14 (prOf ts) (.int .i64 pv) (.int .i64 tv) rfl rfl rfl rfl ⟨rfl,rfl⟩ HPR4.out hrl HB4.out.size HB4.out ?_;intro v5 w5 hown hb5 hs5 hk5)
      have f05:w5.cell? ⟨wr.heap.size,0,none⟩=some (.int .i64 pv):=(World.cell?_of_block (w:=w4) (a:=⟨wr.heap.size,0,none⟩) (hk5.keep _ (Zaa f0) HNB.out)).trans f0;have HB5:=Hd hb5
      have HPR5:Hid (OwnP 66 w5 wA.heap.size v5 (prOf (ts++[(pv,tv,F2)]))):=Hd (by
       rw[show prOf (ts++[(pv,tv,F2)])=prOf ts++[(.int .i64 pv,.int .i64 tv)] by simp[prOf,psOf]];exact hown)
      have HPL5:=Hd (HPL4.out.other HPR4.out (by decide) (by decide) hk5);have HF5:=Hd (HF4.out.same (Zh6 HPR4.out (by decide) hk5));obtain⟨ys,y1,y2,y3⟩:=HPL5.out.ex;have HY1:=Hd y1;have HY2:=Hd y2;have HY3:=Hd y3;have hyl:ys.length<1099511627776:=by rw[y2];simp[plOf];have:=HTL.out;omega
      clear hown hb5 hs5 hk5 y1 y2 y3 HPL4 HPR4 HF4 HB4 f0 f1 hrl;go_wp2_with (at_builtin;refine Ze2 Zic w5 rfl _ _ rfl wA.heap.size wA u13 ys (.int .i64 pv) (.slice ta (2^n) tc) rfl rfl rfl rfl ⟨rfl,rfl⟩ HY1.out hyl HB5.out.size HB5.out ?_;intro v6 w6 hown hb6 hs6 hk6);have HPR6:=Hd (HPR5.out.other HY1.out (by decide) hk6)
      have HPL6:Hid (PlF n w6 o3 wA.heap.size v6 (plOf (ts++[(pv,tv,F2)]))):=Hd (by
       rw[show plOf (ts++[(pv,tv,F2)])=plOf ts++[(pv,F2)] by simp[plOf]];exact PlF.app (p:=(pv,F2)) HY1.out HY2.out HY3.out HF5.out hown hk6)
      have HB6:=Hd hb6;have HTL6:Hid ((ts++[(pv,tv,F2)]).length=j+1):=Hd (by simp;exact HTL.out);clear hown hb6 hs6 hk6 HY1 HY2 HY3 HF5 HPL5 HPR5 HB5 HTL f05;go_wp2_with fail;go_roundw
      case rel=>exact⟨j+1,ts++[(pv,tv,F2)],by omega,by go_num,HTL6,HPL6,HPR6,HB6,Htv⟩
      case measure=>simp[intOf];omega
    ·
     obtain rfl:j=ps.length:=by omega
     have hjz:¬ (ps.length:Int)<(ps.length:Int):=by omega
     obtain⟨qs,hqs⟩:∃ qs,qs=psOf ts:=⟨_,rfl⟩;have hql:qs.length<=8:=by rw[hqs];simp[psOf];have:=HTL.out;omega
     have hpr2:OwnP 66 wr wA.heap.size u14 (qs.map fun p=>(Value.int .i64 p.1,Value.int .i64 p.2)):=by rw[hqs];exact HPR.out
     obtain⟨qa,qc,hqe,hqp⟩:=Zv4 hpr2 (by omega);subst hqe;have HQP:=Hd hqp;have HQS:=Hd hqs;have HLR:=Hd (HLA.out.below HBR.out);have HWR:=Hd (Zlr HLR.out.sat false (c:=qc) hqp);obtain⟨er,her⟩:∃ er,er=Zb0 n (erV (two++hs)) qs:=⟨_,rfl⟩;rw[show erN n (two++hs) false=erV (two++hs) from if_neg (by decide),<- her] at HWR;have HER:=Hd her;have HF1R:=Hd (HF1.out.below' HBR.out);clear hqs hqp hpr2 HPR her HLA HONE HPSA HF1;go_wp2_with fail;refine HWR.out.mono ?_;rintro y w5 ⟨rfl,hb5⟩;have HL5:=Hd (HLR.out.below hb5);have c5:=(hb5.cell (p:=⟨w.heap.size,0,none⟩) (Zaa cR)).trans cR;have HPL5:=Hd (HPL.out.below hb5);have HF15:=Hd (HF1R.out.below' hb5);have HNO5:Hid (∀ k,wA.heap.size<=k->k<w5.heap.size->o3 k=none):=Hd fun k hk _=>HNO.out k hk
     have HVC:=Hd (Zoa Zbn HL5.out.sat ⟨_,HL5.out.b2.zero⟩ HM1.out (c:=qc) (HQP.out.below (b0:=0) hb5) HL5.out.st (by omega) (Zip (by omega)));rw[<- HER.out] at HVC;clear hb5 HLR HPL HF1R HWR cR HNO HQP
     by_cases her0:er=0
     ·
      subst her0;have HSG:=Hd (Ya5 HL5.out.sat (ts:=ts) (by rw[<- HQS.out];exact HER.out.symm) HKN.out);obtain⟨G,hG⟩:∃ G,G=Zbd (sigV (two++hs) qs) F1:=⟨_,rfl⟩;have HG:=Hd hG;have HVC2:Hid (Calls Tryz.prog 37 #[.pointer (some ⟨mb,0,none⟩),.int .i64 a1,.slice qa qs.length qc] w5 fun x w'=>NewF Zhj n (Zcd n) wb mb (two++hs) nx q.plan G o3 w5 x w'):=Hd (HVC.out.mono fun x w' hx=>by rw[hG];exact hx.1 rfl);clear hG HVC;go_wp2_with fail;refine HVC2.out.mono ?_;rintro y w6 ⟨rfl,o4,m4,V4,hc4,hw4,hs4⟩;have HL6:=Hd (HL5.out.go (Wt':=SufW q.plan) hs4 (HL5.out.b2.app _) hw4 hc4);have HF16:=Hd (HF15.out.chg hc4);have HPL6:=Hd (HPL5.out.chg hc4 HNO5.out);have c6:=(HL6.out.below0.cell (p:=⟨w.heap.size,0,none⟩) (Zaa HCB.out)).trans HCB.out;obtain⟨ua,uc,rfl,hua⟩:=HF16.out.tab;obtain⟨xa,xc,rfl,hxa⟩:=HPL6.out.places (by simp[plOf];have:=HTL.out;omega) HSG.out.2.2.2
      have HPU:Hid (Calls Tryz.prog 32 #[.slice ua (2^n) uc,.slice xa (natL (plOf ts)).length xc] w6 fun e w'=>∃ v,e=.returned v/\Zbm w' v (tabB n G)/\Below w6.heap.size w6 w'):=Hd (by
       refine(Zg8 n (by omega) F1 ua uc xa xc (natL (plOf ts)) w6 hua hxa HSG.out.2.1 HSG.out.2.2.1).mono ?_;rintro x w' ⟨v,rfl,h3,h4⟩;rw[HSG.out.1,<- HQS.out,<- HG.out] at h3;exact⟨v,rfl,h3,h4⟩)
      clear hs4 hw4 hc4 HVC2 HL5 hua hxa HF15 HF16 HPL5 HPL6 c5;go_wp2_with fail;refine HPU.out.mono ?_;rintro y w9 ⟨v9,rfl,hv9,hb9⟩;have HL9:=Hd (HL6.out.below hb9);have HIS:=Hd (Zml HL9.out.sat (by omega) (k:=nx) (F:=G) (by simp) hv9);clear hb9 hv9 HPU HL6;go_wp2_with fail;refine HIS.out.mono ?_;rintro y w10 ⟨b,rfl,hb,hb10⟩;obtain rfl:=hb.2 (by first|rfl|trivial);have HL10:=Hd (HL9.out.below hb10);have HALL:=Hd (Zua HL10.out.sat (by omega) (HL10.out.row (fun p hp=>List.mem_append_left _ (HSUB.out p hp)) (by omega)));clear hb hb10 HIS HL9;go_wp2_with fail;refine HALL.out.mono ?_;rintro y w12 ⟨rfl,hb12⟩;have HL12:=Hd (HL10.out.below hb12)
      have HLF:Hid (Calls Tryz.prog 30 #[.pointer (some ⟨mb,0,none⟩),.int .i64 ((hs.length:Nat)+1)] w12 fun x w'=>x=.returned (.bool true)/\w12=w'):=Hd ((Zih HL12.out.sat (hs.length+1) (by omega)).mono fun e w' ⟨h1,h2⟩=>by
       rw[h1,decide_eq_true (by simp[two]<;>omega)];exact⟨rfl,h2⟩)
      have HB12:=Hd HL12.out.below0;have HLV:=Hd (Zbi w12);clear hb12 HALL HL10;go_wp2_with fail;refine HLF.out.mono ?_;rintro y w' ⟨rfl,rfl⟩;go_wp2_with fail;refine HLV.out.mono ?_;rintro y w11 ⟨rfl,hb11⟩;have HFN:=Hd (HBB.out.trans ((HB12.out.trans (hb11.mono HB12.out.size)).mono HBB.out.size));clear hb11 HLV HLF;go_wp2_with fail;go_ret;exact⟨rfl,HFN.out⟩
     ·
      have HVC2:Hid (Calls Tryz.prog 37 #[.pointer (some ⟨mb,0,none⟩),.int .i64 a1,.slice qa qs.length qc] w5 fun x w'=>x=.returned (.tuple #[.int .i64 0,.int .i64 er])/\Below w5.heap.size w5 w'):=Hd (HVC.out.mono fun x w' hx=>hx.2 her0);have hne1:(er == 0)=false:=by simpa using her0
      have hne2:(er != 0)=true:=by simpa using her0
      clear HVC HER her0 HPL5 HF15;go_wp2_with fail;refine HVC2.out.mono ?_;rintro y w6 ⟨rfl,hb6⟩;have HL6:=Hd (HL5.out.below hb6)
      have HLF:Hid (Calls Tryz.prog 30 #[.pointer (some ⟨mb,0,none⟩),.int .i64 (hs.length:Nat)] w6 fun x w'=>x=.returned (.bool true)/\w6=w'):=Hd ((Zih HL6.out.sat hs.length (by omega)).mono fun e w' ⟨h1,h2⟩=>by
       rw[h1,decide_eq_true (by simp[two]<;>omega)];exact⟨rfl,h2⟩)
      have HB6:=Hd HL6.out.below0;have HLV:=Hd (Zbi w6);clear hb6 HVC2 HL5 HL6 c5;go_wp2_with fail;refine HLF.out.mono ?_;rintro y w' ⟨rfl,rfl⟩;go_wp2_with fail;refine HLV.out.mono ?_;rintro y w11 ⟨rfl,hb11⟩;have HFN:=Hd (HBB.out.trans ((HB6.out.trans (hb11.mono HB6.out.size)).mono HBB.out.size));clear hb11 HLV HLF;go_wp2_with fail;go_ret;exact⟨rfl,HFN.out⟩
end Go.Proofs.YtmofaapnkidioaaGreat
