/- The walk of a law: ConstrainsW. -/
import Derived.Test.YtmofaapnkidioaaGreatR8
set_option linter.unusedSimpArgs false
set_option linter.unusedVariables false
set_option linter.unusedSectionVars false
set_option linter.unnecessarySimpa false
set_option maxRecDepth 100000
set_option maxHeartbeats 8000000
namespace Go.Proofs.YtmofaapnkidioaaGreat
open Go.RowKit
theorem constrains_walk (q:AskD) (ao ae ap:Option Addr) (co ce cp:Nat) (p0 p1:Nat) (hp0:p0<256) (hp1:p1<256) (w:World) (h:AskAt w q ao ae ap) :
 Calls Tryz.prog 9 #[askV q ao ae ap co ce cp,.agg #[.int .u8 p0,.int .u8 p1]] w fun y w'=>y=.returned (.bool true)/\Below w.heap.size w w':=by
 have HSM:Hid (∀ W,Below w.heap.size w W->∀ u,u=askV q ao ae ap co ce cp->Calls Tryz.prog 15 #[u] W fun y w'=>∃ b,y=.returned (.bool b)/\(b=true->Zfd q)/\Below W.heap.size W w'):=Hd fun W hb u hu=>by subst hu;exact Zg6 q ao ae ap co ce cp W (h.below hb)
 have HST:Hid (∀ W n,Below w.heap.size w W->Zfd q->q.vars=(n:Nat)->∀ u,u=askV q ao ae ap co ce cp->Calls Tryz.prog 17 #[u] W (SetP Za2 q n W)):=Hd fun W n hb hs hn u hu=>by subst hu;exact Zg5 Zbk q ao ae ap co ce cp W (h.below hb) hs n hn
 obtain⟨vars,hvars⟩:∃ z,z=q.vars:=⟨_,rfl⟩;have HV:=Hd hvars;obtain⟨plen,hplen⟩:∃ z,z=q.plan.length:=⟨_,rfl⟩;unfold askV at HSM HST ⊢;rw[<- hvars,<- hplen] at HSM HST ⊢;obtain⟨olen,holen⟩:∃ z,z=q.order.length:=⟨_,rfl⟩;obtain⟨elen,helen⟩:∃ z,z=q.es.length:=⟨_,rfl⟩;rw[<- holen,<- helen] at HSM HST ⊢;obtain⟨w1,hw1⟩:∃ w1,w1=(w.alloc (.cells #[.int .i64 vars,.slice ao olen co,.slice ae elen ce,.slice ap plen cp] 26)).alloc (.cells #[.int .u8 p0,.int .u8 p1] 27):=⟨_,rfl⟩;have HW1:Hid (_=w1):=Hd hw1.symm;have HB1:Hid (Below w.heap.size w w1):=by rw[hw1];exact Hd ((Zad _ _).alloc (by simp) _)
 have hblk:w1.heap[w.heap.size]?=some (.cells #[.int .i64 vars,.slice ao olen co,.slice ae elen ce,.slice ap plen cp] 26 (0,0)):=by rw[hw1];exact(Go.heap_alloc_old _ _ (by simp)).trans (heap_alloc_new _ _)
 have hblb:w1.heap[w.heap.size+1]?=some (.cells #[.int .u8 p0,.int .u8 p1] 27 (0,0)):=by
  have:=heap_alloc_new (w.alloc (.cells #[.int .i64 vars,.slice ao olen co,.slice ae elen ce,.slice ap plen cp] 26)) (.cells #[.int .u8 p0,.int .u8 p1] 27);rw[World.size_alloc] at this;rw[hw1];exact this
 have x0:w1.cell? ⟨w.heap.size+1,0,none⟩=some (.int .u8 p0):=by rw[cell_of_row _ _ 0 _ _ _ hblb];rfl
 have x1:w1.cell? ⟨w.heap.size+1,1,none⟩=some (.int .u8 p1):=by rw[cell_of_row _ _ 1 _ _ _ hblb];rfl
 have d0:w1.cell? ⟨w.heap.size,0,none⟩=some (.int .i64 vars):=by rw[cell_of_row _ _ 0 _ _ _ hblk];rfl
 have d1:w1.cell? ⟨w.heap.size,1,none⟩=some (.slice ao olen co):=by rw[cell_of_row _ _ 1 _ _ _ hblk];rfl
 have d2:w1.cell? ⟨w.heap.size,2,none⟩=some (.slice ae elen ce):=by rw[cell_of_row _ _ 2 _ _ _ hblk];rfl
 have d3:w1.cell? ⟨w.heap.size,3,none⟩=some (.slice ap plen cp):=by rw[cell_of_row _ _ 3 _ _ _ hblk];rfl
 clear h hw1 hblk hvars hplen holen helen hblb
 go_enter Tryz.func9,Tryz.ntmps9
 go_upto_region 1 with fail;rw[HW1.out];go_wp2_with fail;refine(HSM.out _ HB1.out _ rfl).mono ?_;rintro y w2 ⟨b,rfl,hb,hbel⟩;have HB:=Hd hb;have HBEL:=Hd (HB1.out.trans (hbel.mono HB1.out.size));have e0:=(hbel.cell (p:=⟨w.heap.size,0,none⟩) (Zaa d0)).trans d0;have e1:=(hbel.cell (p:=⟨w.heap.size,1,none⟩) (Zaa d1)).trans d1;have e2:=(hbel.cell (p:=⟨w.heap.size,2,none⟩) (Zaa d2)).trans d2;have e3:=(hbel.cell (p:=⟨w.heap.size,3,none⟩) (Zaa d3)).trans d3;have y0:=(hbel.cell (p:=⟨w.heap.size+1,0,none⟩) (Zaa x0)).trans x0;have y1:=(hbel.cell (p:=⟨w.heap.size+1,1,none⟩) (Zaa x1)).trans x1;have HLV:=Hd (Zbm w2);clear hb hbel HSM d0 d1 d2 d3 HW1 x0 x1;cases b with
 | false =>
   go_wp2_with fail;refine HLV.out.mono ?_;rintro y w3 ⟨rfl,hb3⟩;have HB3:=Hd (HBEL.out.trans (hb3.mono HBEL.out.size));clear hb3;go_wp2_with fail;go_ret;exact⟨rfl,HB3.out⟩
 | true =>
   by_cases hv5:vars>5
   ·
    go_wp2_with fail;refine HLV.out.mono ?_;rintro y w3 ⟨rfl,hb3⟩;have HB3:=Hd (HBEL.out.trans (hb3.mono HBEL.out.size));clear hb3;go_wp2_with fail;go_ret;exact⟨rfl,HB3.out⟩
   have HSP:=Hd (HB.out (by first|rfl|trivial));obtain⟨n,hn⟩:∃ n:Nat,vars=(n:Nat):=⟨vars.toNat,by have:=HSP.out.lo;have:=HV.out;omega⟩;subst hn;have hn6:n<=6:=by have:=HSP.out.hi;have:=HV.out;omega
   have hn1:1<=n:=by have:=HSP.out.lo;have:=HV.out;omega
   have hes:q.es.length<=5:=HSP.out.es;have HSET:=Hd (HST.out w2 n HBEL.out HSP.out rfl _ rfl);clear HST HLV HB;go_wp2_with fail;refine HSET.out.mono ?_;rintro y w3 ⟨mb,vl,vx,wb,hs,nx,rfl,hbw,hsnd,hnx,o3,m3,V3,lt3,-⟩;have hhl:hs.length<=5:=by have:=congrArg List.length hsnd;simp at this;omega
   obtain⟨al,cl,hvl⟩:∃ a c,vl=.slice a hs.length c:=by
    obtain⟨a,c,e,_⟩:=lt3.l.own.slice;exact⟨a,c,by rw[e];simp[Zbe]⟩
   subst hvl;have HSUB:Hid (∀ p∈hs,p∈two++hs):=Hd fun p hp=>List.mem_append_right _ hp
   have hfl:(two++hs).length=2+hs.length:=by simp[two];omega
   have HROOM:Hid (∀ k,k<=192->k*2^n<=Zbn n):=Hd fun k hk=>Zdp hk
   have HCB:Hid (wb.cell? ⟨w.heap.size,0,none⟩=some (.int .i64 (n:Nat))):=Hd ((hbw.cell (p:=⟨w.heap.size,0,none⟩) (Zaa e0)).trans e0);have c0:=(lt3.below0.cell (p:=⟨w.heap.size,0,none⟩) (Zaa ((hbw.cell (p:=⟨w.heap.size,0,none⟩) (Zaa e0)).trans e0))).trans ((hbw.cell (p:=⟨w.heap.size,0,none⟩) (Zaa e0)).trans e0);have z0:=(lt3.below0.cell (p:=⟨w.heap.size+1,0,none⟩) (Zaa ((hbw.cell (p:=⟨w.heap.size+1,0,none⟩) (Zaa y0)).trans y0))).trans ((hbw.cell (p:=⟨w.heap.size+1,0,none⟩) (Zaa y0)).trans y0);have z1:=(lt3.below0.cell (p:=⟨w.heap.size+1,1,none⟩) (Zaa ((hbw.cell (p:=⟨w.heap.size+1,1,none⟩) (Zaa y1)).trans y1))).trans ((hbw.cell (p:=⟨w.heap.size+1,1,none⟩) (Zaa y1)).trans y1);have HBB:Hid (Below w.heap.size w wb):=Hd (HBEL.out.trans (hbw.mono HBEL.out.size));have HRG:Hid (∀ p∈two++hs,p.1<nx):=Hd fun p hp=>(lt3.sat.range p hp).2
   have HL:=Hd ((lt3.withOd (Od':=fun _=>True) trivial).withSt (Wt':=SufW q.plan) (by rw[lt3.st.1];exact List.suffix_refl _));clear lt3 hbw hsnd HSET e0 e1 e2 e3 y0 y1;have HP1:=Hd (Zf8 HL.out HSUB.out (by omega) (by omega) p0 hp0);go_wp2_with fail;refine HP1.out.mono ?_;rintro y wA ⟨a1,F1,r1,rfl,hm1,hf1,hbA⟩;have HLA:=Hd (HL.out.below hbA);have HF1:=Hd hf1;have HM1:=Hd hm1;have cA:=(hbA.cell (p:=⟨w.heap.size,0,none⟩) (Zaa c0)).trans c0;have zA:=(hbA.cell (p:=⟨w.heap.size+1,1,none⟩) (Zaa z1)).trans z1;have HP2:=Hd (Zf8 HLA.out HSUB.out (by omega) (by omega) p1 hp1);clear hf1 hbA HP1 HL c0 z0 z1 hm1;go_wp2_with fail;refine HP2.out.mono ?_;rintro y wB ⟨a2,F2,r2,rfl,hm2,hf2,hbB⟩;have HLB:=Hd (HLA.out.below hbB);have HM2:=Hd hm2;have cB:=(hbB.cell (p:=⟨w.heap.size,0,none⟩) (Zaa cA)).trans cA
   have H0:Hid (StF Za2 n (Zbn n) wb mb (two++hs) nx q.plan [(r1,F1),(r2,F2)] wB):=Hd (StF.of HLB.out.st HLB.out.sat (by
    intro p hp;simp only[List.mem_cons,List.not_mem_nil,or_false] at hp;rcases hp with rfl|rfl
    ·
     exact HF1.out.chg (Zb3 hbB o3)
    ·
     exact hf2))
   have HD1:Hid (DepF n F1):=Hd (H0.out.dep HM1.out);have HD2:Hid (DepF n F2):=Hd (H0.out.dep HM2.out);obtain⟨fs,hfs⟩:∃ fs,fs=two++hs:=⟨_,rfl⟩;have HFL:Hid (fs.length=2+hs.length):=Hd (by rw[hfs,hfl]);have HTW:Hid ((0,fun _=>false)∈fs):=Hd (by rw[hfs];simp[two]);have HON:Hid ((1,fun _=>true)∈fs):=Hd (by rw[hfs];simp[two]);have HRC:Hid (∀ c,c<=100->c*2^n+(2^n-1)*2^n<=Zbn n):=Hd fun c hc=>Zkm hc
   have HRL:Hid (∀ c,c<=100->c*2^n+(2^n+(2^n-1)*2^n)<=Zbn n):=Hd fun c hc=>Zi0 hc
   have HRA:Hid (∀ c,c<=100->c*2^n+2*(2^n-1)<=Zbn n):=Hd fun c hc=>Zn5 (r:=2) (by omega) (by omega)
   rw[<- hfs] at H0 HM1 HM2;clear hf2 hbB HP2 HLA HF1 cA zA hm2 HLB hfs hfl;obtain⟨oB,mB,VB,hwB,hsB,hrB⟩:=H0.out;have HSB:=Hd hsB;have HRB:=Hd (show LawF wB oB r1 (tabB n F1)/\LawF wB oB r2 (tabB n F2) from ⟨hrB (r1,F1) (by simp),hrB (r2,F2) (by simp)⟩)
   by_cases hsat:SatF F2
   ·
    have HSAT:=Hd hsat;have HCO:=Hd (Zgf hsB HTW.out HM1.out HM2.out hsat hwB (by omega) (HRC.out _ (by have:=HFL.out;omega)));clear hsB hrB hwB hsat;go_wp2_with fail;refine HCO.out.mono ?_;rintro y w4 ⟨rfl,R,o4,m4,V4,hc4,hw4,hs4,hrel⟩;have HS4:=Hd hs4;have HREL:Hid (R=constrF m4.d.vars F1 F2):=Hd hrel;have HR4:=Hd (show LawF w4 o4 r1 (tabB n F1)/\LawF w4 o4 r2 (tabB n F2) from ⟨HRB.out.1.chg hc4,HRB.out.2.chg hc4⟩);obtain⟨ta,tc,rfl,hta⟩:=HR4.out.1.tab;obtain⟨ua,uc,rfl,hua⟩:=HR4.out.2.tab;have HTA:=Hd hta;have HUA:=Hd hua;have HNV:=Hd (Zd0 HD2.out (show TabA n w4 (.slice ua (2^n) uc) F2 from ⟨ua,uc,rfl,hua⟩));clear hc4 hw4 hs4 hrel hta hua HCO HSB HRB H0 cB;go_wp2_with fail;refine HNV.out.mono ?_;rintro y w5 ⟨⟨b,rfl,hb⟩,hb5⟩;have hbf:b=false:=by
     cases b with
     | false=>rfl
     | true=>exact absurd HSAT.out (Zeu.2 (hb.1 rfl))
    subst hbf;have HS5:=Hd (HS4.out.below hb5);have HOR:=Hd (Zjw HS5.out.is HS5.out.lt (by rw[HS5.out.vars];omega));have HT5:=Hd (HTA.out.below hb5);have HU5:=Hd (HUA.out.below hb5);clear hb hb5 HNV HS4 HTA HUA HR4;go_wp2_with fail;refine HOR.out.mono ?_;rintro y w6 ⟨vo,rfl,hvo,hb6⟩;have HS6:=Hd (HS5.out.below hb6);obtain⟨oa,oc,hoe,hoi⟩:∃ a c,vo=.slice a m4.d.vars.length c/\Zax w6 a (Zdf m4.d.vars):=by
     obtain⟨a,c,e1,e2,_⟩:=hvo.sliceIs (by simp[HS5.out.vars];omega);exact⟨a,c,by rw[e1];simp,e2⟩
    subst hoe;have HRF:=Hd (Zj9 n (by omega) HD1.out HD2.out HSAT.out (fc:=tc) (cc:=uc) (oc:=oc) (HT5.out.below hb6) (HU5.out.below hb6) HS5.out.ordNodup HS5.out.ordAll HS5.out.ordLt hoi);rw[<- HREL.out] at HRF;clear hvo hoi hb6 HOR HT5 HU5 HREL HS5;go_wp2_with fail;refine HRF.out.mono ?_;rintro y w7 ⟨v9,rfl,hv9,hb7⟩;have HS7:=Hd (HS6.out.below hb7);have HIS:=Hd (Zz3 HS7.out (by omega) (k:=nx) (F:=R) (by simp) hv9);clear hv9 hb7 HRF HS6;go_wp2_with fail;refine HIS.out.mono ?_;rintro y w8 ⟨b,rfl,hb,hb8⟩;obtain rfl:=hb.2 (by first|rfl|trivial);have HS8:=Hd (HS7.out.below hb8);have HLF:Hid (Calls Tryz.prog 30 #[.pointer (some ⟨mb,0,none⟩),.int .i64 ((hs.length:Nat)+1)] w8 fun x w'=>x=.returned (.bool true)/\w8=w'):=Hd ((Zsi HS8.out (hs.length+1) (by omega)).mono fun e w' ⟨h1,h2⟩=>⟨by rw[h1,decide_eq_true (by simp;have:=HFL.out;omega)],h2⟩);have HBL:=Hd HS8.out.chg.below0;clear hb hb8 HIS HS7 HS8;go_wp2_with fail;refine HLF.out.mono ?_;rintro y w' ⟨rfl,rfl⟩;have HLV:=Hd (Zbm w8);go_wp2_with fail;refine HLV.out.mono ?_;rintro y w11 ⟨rfl,hb11⟩;have HFN:=Hd (HBB.out.trans ((HBL.out.trans (hb11.mono HBL.out.size)).mono HBB.out.size));clear hb11 HLV;go_wp2_with fail;go_ret;exact⟨rfl,HFN.out⟩
   ·
    have he:F2=fun _=>false:=Zeu.1 hsat
    have HCO:=Hd (Ze1 hsB (kf:=a1) (kc:=a2) (er:=20) (.inr ⟨rfl,HTW.out,⟨F1,HM1.out⟩,by rw[<- he];exact HM2.out⟩));have HFE:=Hd he;clear hsB hrB hwB hsat he;go_wp2_with fail;refine HCO.out.mono ?_;rintro y w4 ⟨rfl,hb4⟩;have H1:=Hd (H0.out.below hb4);have HNV:=Hd (Zd0 HD2.out (H1.out.tab (r:=r2) (F:=F2) (by simp)));clear hb4 HCO H0 cB HSB HRB;go_wp2_with fail;refine HNV.out.mono ?_;rintro y w5 ⟨⟨b,rfl,hb⟩,hb5⟩;have hbt:b=true:=hb.2 HFE.out;subst hbt;have HBL:=Hd (H1.out.below hb5).below0;clear hb hb5 HNV H1;have HLV:=Hd (Zbm w5);go_wp2_with fail;refine HLV.out.mono ?_;rintro y w11 ⟨rfl,hb11⟩;have HFN:=Hd (HBB.out.trans ((HBL.out.trans (hb11.mono HBL.out.size)).mono HBB.out.size));clear hb11 HLV;go_wp2_with fail;go_ret;exact⟨rfl,HFN.out⟩
end Go.Proofs.YtmofaapnkidioaaGreat
