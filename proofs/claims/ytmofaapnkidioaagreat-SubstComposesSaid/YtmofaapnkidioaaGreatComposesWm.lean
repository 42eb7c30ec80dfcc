/- The walk of a law: ComposesW. -/
import Derived.Test.YtmofaapnkidioaaGreatQ8
set_option linter.unusedSimpArgs false
set_option linter.unusedVariables false
set_option linter.unusedSectionVars false
set_option linter.unnecessarySimpa false
set_option maxRecDepth 100000
set_option maxHeartbeats 8000000
namespace Go.Proofs.YtmofaapnkidioaaGreat
open Go.RowKit
theorem composes_walk (q:AskD) (ao ae ap:Option Addr) (co ce cp:Nat) (kf v kg:Int) (w:World) (h:AskAt w q ao ae ap) :
 Calls Tryz.prog 4 #[askV q ao ae ap co ce cp,.int .i64 kf,.int .i64 v,.int .i64 kg] w fun y w'=>y=.returned (.bool true)/\Below w.heap.size w w':=by
 have HSM:Hid (∀ W,Below w.heap.size w W->∀ u,u=askV q ao ae ap co ce cp->Calls Tryz.prog 15 #[u] W fun y w'=>∃ b,y=.returned (.bool b)/\(b=true->Zgc q)/\Below W.heap.size W w'):=Hd fun W hb u hu=>by subst hu;exact Zit q ao ae ap co ce cp W (h.below hb)
 have HST:Hid (∀ W n,Below w.heap.size w W->Zgc q->q.vars=(n:Nat)->∀ u,u=askV q ao ae ap co ce cp->Calls Tryz.prog 17 #[u] W (SetP Zhj q n W)):=Hd fun W n hb hs hn u hu=>by subst hu;exact Zis Zbn q ao ae ap co ce cp W (h.below hb) hs n hn
 obtain⟨vars,hvars⟩:∃ z,z=q.vars:=⟨_,rfl⟩;have HV:=Hd hvars;obtain⟨plen,hplen⟩:∃ z,z=q.plan.length:=⟨_,rfl⟩;unfold askV at HSM HST ⊢;rw[<- hvars,<- hplen] at HSM HST ⊢;obtain⟨olen,holen⟩:∃ z,z=q.order.length:=⟨_,rfl⟩;obtain⟨elen,helen⟩:∃ z,z=q.es.length:=⟨_,rfl⟩;rw[<- holen,<- helen] at HSM HST ⊢;obtain⟨w1,hw1⟩:∃ w1,w1=w.alloc (.cells #[.int .i64 vars,.slice ao olen co,.slice ae elen ce,.slice ap plen cp] 26):=⟨_,rfl⟩;have HW1:Hid (_=w1):=Hd hw1.symm;have HB1:Hid (Below w.heap.size w w1):=by rw[hw1];exact Hd (Zac _ _)
 have hblk:w1.heap[w.heap.size]?=some (.cells #[.int .i64 vars,.slice ao olen co,.slice ae elen ce,.slice ap plen cp] 26 (0,0)):=by rw[hw1];exact heap_alloc_new _ _
 have d0:w1.cell? ⟨w.heap.size,0,none⟩=some (.int .i64 vars):=by rw[cell_of_row _ _ 0 _ _ _ hblk];rfl
 have d1:w1.cell? ⟨w.heap.size,1,none⟩=some (.slice ao olen co):=by rw[cell_of_row _ _ 1 _ _ _ hblk];rfl
 have d2:w1.cell? ⟨w.heap.size,2,none⟩=some (.slice ae elen ce):=by rw[cell_of_row _ _ 2 _ _ _ hblk];rfl
 have d3:w1.cell? ⟨w.heap.size,3,none⟩=some (.slice ap plen cp):=by rw[cell_of_row _ _ 3 _ _ _ hblk];rfl
 clear h hw1 hblk hvars hplen holen helen
 go_enter Tryz.func4,Tryz.ntmps4
 go_upto_region 1 with fail;rw[HW1.out];go_wp2_with fail;refine(HSM.out _ HB1.out _ rfl).mono ?_;rintro y w2 ⟨b,rfl,hb,hbel⟩;have HB:=Hd hb;have HBEL:=Hd (HB1.out.trans (hbel.mono HB1.out.size));have e0:=(hbel.cell (p:=⟨w.heap.size,0,none⟩) (Zaa d0)).trans d0;have e1:=(hbel.cell (p:=⟨w.heap.size,1,none⟩) (Zaa d1)).trans d1;have e2:=(hbel.cell (p:=⟨w.heap.size,2,none⟩) (Zaa d2)).trans d2;have e3:=(hbel.cell (p:=⟨w.heap.size,3,none⟩) (Zaa d3)).trans d3;have HLV:=Hd (Zbi w2);clear hb hbel HSM d0 d1 d2 d3 HW1;cases b with
 | false =>
   go_wp2_with fail;refine HLV.out.mono ?_;rintro y w3 ⟨rfl,hb3⟩;have HB3:=Hd (HBEL.out.trans (hb3.mono HBEL.out.size));clear hb3;go_wp2_with fail;go_ret;exact⟨rfl,HB3.out⟩
 | true =>
   have HSP:=Hd (HB.out (by first|rfl|trivial));obtain⟨n,hn⟩:∃ n:Nat,vars=(n:Nat):=⟨vars.toNat,by have:=HSP.out.lo;have:=HV.out;omega⟩;subst hn;have hn6:n<=6:=by have:=HSP.out.hi;have:=HV.out;omega
   have hn1:1<=n:=by have:=HSP.out.lo;have:=HV.out;omega
   have hes:q.es.length<=5:=HSP.out.es;have HSET:=Hd (HST.out w2 n HBEL.out HSP.out rfl _ rfl);clear HST HLV HB;go_wp2_with fail;refine HSET.out.mono ?_;rintro y w3 ⟨mb,vl,vx,wb,hs,nx,rfl,hbw,hsnd,hnx,o3,m3,V3,lt3,-⟩;have hhl:hs.length<=5:=by have:=congrArg List.length hsnd;simp at this;omega
   obtain⟨al,cl,hvl⟩:∃ a c,vl=.slice a hs.length c:=by
    obtain⟨a,c,e,_⟩:=lt3.l.own.slice;exact⟨a,c,by rw[e];simp[Zba]⟩
   subst hvl;have HSUB:Hid (∀ p∈hs,p∈two++hs):=Hd fun p hp=>List.mem_append_right _ hp
   have hfl:(two++hs).length=2+hs.length:=by simp[two];omega
   have HROOM:Hid (∀ k,k<=192->k*2^n<=Zcd n):=Hd fun k hk=>Zey hk
   have HCB:Hid (wb.cell? ⟨w.heap.size,0,none⟩=some (.int .i64 (n:Nat))):=Hd ((hbw.cell (p:=⟨w.heap.size,0,none⟩) (Zaa e0)).trans e0);have c0:=(lt3.below0.cell (p:=⟨w.heap.size,0,none⟩) (Zaa ((hbw.cell (p:=⟨w.heap.size,0,none⟩) (Zaa e0)).trans e0))).trans ((hbw.cell (p:=⟨w.heap.size,0,none⟩) (Zaa e0)).trans e0);have HBB:Hid (Below w.heap.size w wb):=Hd (HBEL.out.trans (hbw.mono HBEL.out.size));have HRG:Hid (∀ p∈two++hs,p.1<nx):=Hd fun p hp=>(lt3.sat.range p hp).2
   have HL:=Hd ((lt3.withOd (Od':=fun _=>True) trivial).withSt (Wt':=SufW q.plan) (by rw[lt3.st.1];exact List.suffix_refl _));clear lt3 hbw hsnd HSET e0 e1 e2 e3;have HP1:=Hd (Zi9 HL.out HSUB.out (by omega) (by omega) kf);go_wp2_with fail;refine HP1.out.mono ?_;rintro y wA ⟨a1,F1,r1,rfl,hm1,hf1,hbA⟩;have HLA:=Hd (HL.out.below hbA);have HF1:=Hd hf1;have HM1:=Hd hm1;have cA:=(hbA.cell (p:=⟨w.heap.size,0,none⟩) (Zaa c0)).trans c0;have HP2:=Hd (Zi9 HLA.out HSUB.out (by omega) (by omega) kg);clear hf1 hbA HP1 HL c0 hm1;go_wp2_with fail;refine HP2.out.mono ?_;rintro y wB ⟨a2,F2,r2,rfl,hm2,hf2,hbB⟩;have HLB:=Hd (HLA.out.below hbB);have HF1B:=Hd (HF1.out.chg (Zcj hbB o3));have HF2:=Hd hf2;have HM2:=Hd hm2;have cB:=(hbB.cell (p:=⟨w.heap.size,0,none⟩) (Zaa cA)).trans cA;clear hf2 hbB HP2 HLA HF1 cA hm2;obtain⟨ta,tc,rfl,_⟩:=HF2.out.tab;obtain⟨ua,uc,rfl,_⟩:=HF1B.out.tab
   by_cases hv:0<=v/\v<(n:Int)
   ·
    obtain⟨vn,rfl⟩:∃ vn:Nat,v=(vn:Int):=⟨v.toNat,by omega⟩;have hv1:¬ ((vn:Int)<0):=by omega
    have hv2:¬ ((vn:Int)>=(n:Int)):=by omega
    have HCO:=Hd (Zht Zbn HLB.out.sat HM1.out HM2.out vn (by omega) HLB.out.st (by omega) (Zip (by omega)));obtain⟨G,hG⟩:∃ G,G=Zbd (sigC vn F2) F1:=⟨_,rfl⟩;have HG:=Hd hG;rw[<- hG] at HCO;clear hG hv;go_wp2_with fail;refine HCO.out.mono ?_;rintro y w4 ⟨rfl,o4,m4,V4,hc4,hw4,hs4⟩;have HL4:=Hd (HLB.out.go (Wt':=SufW q.plan) hs4 (HLB.out.b2.app _) hw4 hc4);have HF1C:=Hd (HF1B.out.chg hc4);have HF2C:=Hd (HF2.out.chg hc4);have c4:=(HL4.out.below0.cell (p:=⟨w.heap.size,0,none⟩) (Zaa HCB.out)).trans HCB.out;obtain⟨ta',tc',e1,hta⟩:=HF2C.out.tab;obtain⟨ua',uc',e2,hua⟩:=HF1C.out.tab;injection e1 with e1 e3 e5
    injection e2 with e2 e4 e6
    subst e1;subst e2;subst e5;subst e6
    clear e3 e4;have HPU:Hid (∀ W',W'=w4.alloc (.cells #[.int .i64 (vn:Nat),.slice ta (2^n) tc] 56)->Calls Tryz.prog 32 #[.slice ua (2^n) uc,.slice (some ⟨w4.heap.size,0,none⟩) 1 1] W' fun e w'=>∃ v,e=.returned v/\Zbm w' v (tabB n G)/\Below w4.heap.size w4 w'):=Hd fun W' hW'=>by
     have hbW:Below w4.heap.size w4 W':=by rw[hW'];exact Zac _ _
     refine(Zg8 n (by omega) F1 ua uc _ 1 [(vn,F2)] W' (hua.below hbW) (Zth hta rfl hW') (by simp) (fun p hp=>by simp at hp;subst hp;show vn<n;omega)).mono ?_;rintro x w' ⟨v,rfl,h3,h4⟩;rw[Zyk,<- HG.out] at h3;exact⟨v,rfl,h3,hbW.trans (h4.mono hbW.size)⟩
    clear hs4 hw4 hc4 HCO HLB hta hua HF1B HF2 HF1C HF2C;go_wp2_with fail;refine(HPU.out _ rfl).mono ?_;rintro y w9 ⟨v9,rfl,hv9,hb9⟩;have HL9:=Hd (HL4.out.below hb9);have HIS:=Hd (Zml HL9.out.sat (by omega) (k:=nx) (F:=G) (by simp) hv9);clear hb9 hv9 HPU HL4;go_wp2_with fail;refine HIS.out.mono ?_;rintro y w10 ⟨b,rfl,hb,hb10⟩;obtain rfl:=hb.2 (by first|rfl|trivial);have HL10:=Hd (HL9.out.below hb10);have HALL:=Hd (Zua HL10.out.sat (by omega) (HL10.out.row (fun p hp=>List.mem_append_left _ (HSUB.out p hp)) (by omega)));clear hb hb10 HIS HL9;go_wp2_with fail;refine HALL.out.mono ?_;rintro y w12 ⟨rfl,hb12⟩;have HL12:=Hd (HL10.out.below hb12)
    have HLF:Hid (Calls Tryz.prog 30 #[.pointer (some ⟨mb,0,none⟩),.int .i64 ((hs.length:Nat)+1)] w12 fun x w'=>x=.returned (.bool true)/\w12=w'):=Hd ((Zih HL12.out.sat (hs.length+1) (by omega)).mono fun e w' ⟨h1,h2⟩=>by
     rw[h1,decide_eq_true (by simp[two]<;>omega)];exact⟨rfl,h2⟩)
    have HB12:=Hd HL12.out.below0;have HLV:=Hd (Zbi w12);clear hb12 HALL HL10;go_wp2_with fail;refine HLF.out.mono ?_;rintro y w' ⟨rfl,rfl⟩;go_wp2_with fail;refine HLV.out.mono ?_;rintro y w11 ⟨rfl,hb11⟩;have HFN:=Hd (HBB.out.trans ((HB12.out.trans (hb11.mono HB12.out.size)).mono HBB.out.size));clear hb11 HLV HLF;go_wp2_with fail;go_ret;exact⟨rfl,HFN.out⟩
   ·
    have HCO:=Hd (Zqp HLB.out.sat HM1.out HM2.out (v:=v) (by omega));clear HF1B HF2;go_wp2_with fail;refine HCO.out.mono ?_;rintro y w4 ⟨rfl,hb4⟩;have HL4:=Hd (HLB.out.below hb4);have c4:=(hb4.cell (p:=⟨w.heap.size,0,none⟩) (Zaa cB)).trans cB
    have HLF:Hid (Calls Tryz.prog 30 #[.pointer (some ⟨mb,0,none⟩),.int .i64 (hs.length:Nat)] w4 fun x w'=>x=.returned (.bool true)/\w4=w'):=Hd ((Zih HL4.out.sat hs.length (by omega)).mono fun e w' ⟨h1,h2⟩=>by
     rw[h1,decide_eq_true (by simp[two]<;>omega)];exact⟨rfl,h2⟩)
    have HB10:=Hd HL4.out.below0;have HLV:=Hd (Zbi w4);clear hb4 HCO HLB HL4 cB
    by_cases hv0:v<0
    ·
     go_wp2_with fail;refine HLF.out.mono ?_;rintro y w' ⟨rfl,rfl⟩;go_wp2_with fail;refine HLV.out.mono ?_;rintro y w11 ⟨rfl,hb11⟩;have HFN:=Hd (HBB.out.trans ((HB10.out.trans (hb11.mono HB10.out.size)).mono HBB.out.size));clear hb11 HLV HLF;go_wp2_with fail;go_ret;exact⟨rfl,HFN.out⟩
    ·
     have hv2:v>=(n:Int):=by omega
     go_wp2_with fail;refine HLF.out.mono ?_;rintro y w' ⟨rfl,rfl⟩;go_wp2_with fail;refine HLV.out.mono ?_;rintro y w11 ⟨rfl,hb11⟩;have HFN:=Hd (HBB.out.trans ((HB10.out.trans (hb11.mono HB10.out.size)).mono HBB.out.size));clear hb11 HLV HLF;go_wp2_with fail;go_ret;exact⟨rfl,HFN.out⟩
end Go.Proofs.YtmofaapnkidioaaGreat
