/- The walk of a law: OfW. -/
import Derived.Test.YtmofaapnkidioaaGreatE8
set_option linter.unusedSimpArgs false
set_option linter.unusedVariables false
set_option linter.unusedSectionVars false
set_option linter.unnecessarySimpa false
set_option maxRecDepth 100000
set_option maxHeartbeats 8000000
namespace Go.Proofs.YtmofaapnkidioaaGreat
open Go.RowKit
theorem Zwu {os:List Int} (h:os.Pairwise (· < ·)) {v:Int} (hv:v∈os):v<=at0 os (os.length-1):=by
 obtain⟨i,hi,rfl⟩:=List.getElem_of_mem hv;rw[Zcb (by omega)];rcases Nat.lt_or_ge i (os.length-1) with c|c
 ·
  have:=List.pairwise_iff_getElem.1 h i (os.length-1) hi (by omega) c;omega
 ·
  have e:i=os.length-1:=by omega
  subst e;exact Int.le_refl _
theorem Zzt {n s:Nat} (hs:s<=60) {c:Nat} (hc:c<=7):c*2^n+(2*s-1)*(2^n-1)<=Zcd n:=by
 have h1:(2*s-1)*(2^n-1)<=120*2^n:=Nat.mul_le_mul (by omega) (Nat.sub_le _ _);exact Zxf (l:=c) (r:=120) (by omega) h1
theorem of_walk (q:AskD) (ao ae ap:Option Addr) (co ce cp:Nat) (E:ExT) (op ev:Int) (xa:Option Addr) (xn xc:Nat) (w:World) (h:AskAt w q ao ae ap) (hx:Zaq w E (.agg #[.int .i64 op,.int .i64 ev,.slice xa xn xc])) :
 Calls Tryz.prog 12 #[askV q ao ae ap co ce cp,.agg #[.int .i64 op,.int .i64 ev,.slice xa xn xc]] w fun y w'=>y=.returned (.bool true)/\Below w.heap.size w w':=by
 have HSM:Hid (∀ W,Below w.heap.size w W->∀ u,u=askV q ao ae ap co ce cp->Calls Tryz.prog 15 #[u] W fun y w'=>∃ b,y=.returned (.bool b)/\(b=true->Zld q)/\Below W.heap.size W w'):=Hd fun W hb u hu=>by subst hu;exact Zvq q ao ae ap co ce cp W (h.below hb)
 have HST:Hid (∀ W n,Below w.heap.size w W->Zld q->q.vars=(n:Nat)->∀ u,u=askV q ao ae ap co ce cp->Calls Tryz.prog 17 #[u] W (SetP Zhy q n W)):=Hd fun W n hb hs hn u hu=>by subst hu;exact Zvo Zek q ao ae ap co ce cp W (h.below hb) hs n hn
 obtain⟨vars,hvars⟩:∃ z,z=q.vars:=⟨_,rfl⟩;have HV:=Hd hvars;obtain⟨plen,hplen⟩:∃ z,z=q.plan.length:=⟨_,rfl⟩;unfold askV at HSM HST ⊢;rw[<- hvars,<- hplen] at HSM HST ⊢;obtain⟨olen,holen⟩:∃ z,z=q.order.length:=⟨_,rfl⟩;obtain⟨elen,helen⟩:∃ z,z=q.es.length:=⟨_,rfl⟩;rw[<- holen,<- helen] at HSM HST ⊢;obtain⟨w1,hw1⟩:∃ w1,w1=(w.alloc (.cells #[.int .i64 vars,.slice ao olen co,.slice ae elen ce,.slice ap plen cp] 26)).alloc (.cells #[.int .i64 op,.int .i64 ev,.slice xa xn xc] 86):=⟨_,rfl⟩;have HW1:Hid (_=w1):=Hd hw1.symm;have HB1:Hid (Below w.heap.size w w1):=by rw[hw1];exact Hd ((Zad _ _).alloc (by simp) _)
 have hblk:w1.heap[w.heap.size]?=some (.cells #[.int .i64 vars,.slice ao olen co,.slice ae elen ce,.slice ap plen cp] 26 (0,0)):=by rw[hw1];exact(Go.heap_alloc_old _ _ (by simp)).trans (heap_alloc_new _ _)
 have hblb:w1.heap[w.heap.size+1]?=some (.cells #[.int .i64 op,.int .i64 ev,.slice xa xn xc] 86 (0,0)):=by
  have:=heap_alloc_new (w.alloc (.cells #[.int .i64 vars,.slice ao olen co,.slice ae elen ce,.slice ap plen cp] 26)) (.cells #[.int .i64 op,.int .i64 ev,.slice xa xn xc] 86);rw[World.size_alloc] at this;rw[hw1];exact this
 have x0:w1.cell? ⟨w.heap.size+1,0,none⟩=some (.int .i64 op):=by rw[cell_of_row _ _ 0 _ _ _ hblb];rfl
 have x1:w1.cell? ⟨w.heap.size+1,1,none⟩=some (.int .i64 ev):=by rw[cell_of_row _ _ 1 _ _ _ hblb];rfl
 have x2:w1.cell? ⟨w.heap.size+1,2,none⟩=some (.slice xa xn xc):=by rw[cell_of_row _ _ 2 _ _ _ hblb];rfl
 have d0:w1.cell? ⟨w.heap.size,0,none⟩=some (.int .i64 vars):=by rw[cell_of_row _ _ 0 _ _ _ hblk];rfl
 have d1:w1.cell? ⟨w.heap.size,1,none⟩=some (.slice ao olen co):=by rw[cell_of_row _ _ 1 _ _ _ hblk];rfl
 have d2:w1.cell? ⟨w.heap.size,2,none⟩=some (.slice ae elen ce):=by rw[cell_of_row _ _ 2 _ _ _ hblk];rfl
 have d3:w1.cell? ⟨w.heap.size,3,none⟩=some (.slice ap plen cp):=by rw[cell_of_row _ _ 3 _ _ _ hblk];rfl
 have HX:=Hd hx;have HPT:=Hd (Zkj E _ w1 (hx.below HB1.out));clear h hw1 hblk hvars hplen holen helen hblb hx
 go_enter Tryz.func12,Tryz.ntmps12
 go_upto_region 1 with fail;rw[HW1.out];go_wp2_with fail;refine HPT.out.mono ?_;rintro y w1b ⟨rr,rd,rfl,hrr,hrd,hrs,hbp⟩;have HRS:=Hd hrs;have HB1b:Hid (Below w.heap.size w w1b):=Hd (HB1.out.trans (hbp.mono HB1.out.size))
 replace d0:=(hbp.cell (p:=⟨w.heap.size,0,none⟩) (Zaa d0)).trans d0
 replace d1:=(hbp.cell (p:=⟨w.heap.size,1,none⟩) (Zaa d1)).trans d1
 replace d2:=(hbp.cell (p:=⟨w.heap.size,2,none⟩) (Zaa d2)).trans d2
 replace d3:=(hbp.cell (p:=⟨w.heap.size,3,none⟩) (Zaa d3)).trans d3
 replace x0:=(hbp.cell (p:=⟨w.heap.size+1,0,none⟩) (Zaa x0)).trans x0
 replace x1:=(hbp.cell (p:=⟨w.heap.size+1,1,none⟩) (Zaa x1)).trans x1
 replace x2:=(hbp.cell (p:=⟨w.heap.size+1,2,none⟩) (Zaa x2)).trans x2
 unfold okI at hrr;clear hrs hbp HPT hrd HB1 HW1;go_wp2_with fail;refine(HSM.out _ HB1b.out _ rfl).mono ?_;rintro y w2 ⟨b,rfl,hb,hbel⟩;have HB:=Hd hb;have HBEL:=Hd (HB1b.out.trans (hbel.mono HB1b.out.size));have e0:=(hbel.cell (p:=⟨w.heap.size,0,none⟩) (Zaa d0)).trans d0;have e1:=(hbel.cell (p:=⟨w.heap.size,1,none⟩) (Zaa d1)).trans d1;have e2:=(hbel.cell (p:=⟨w.heap.size,2,none⟩) (Zaa d2)).trans d2;have e3:=(hbel.cell (p:=⟨w.heap.size,3,none⟩) (Zaa d3)).trans d3;have y0:=(hbel.cell (p:=⟨w.heap.size+1,0,none⟩) (Zaa x0)).trans x0;have y1:=(hbel.cell (p:=⟨w.heap.size+1,1,none⟩) (Zaa x1)).trans x1;have y2:=(hbel.cell (p:=⟨w.heap.size+1,2,none⟩) (Zaa x2)).trans x2;have HLV:=Hd (Zel w2);clear hb hbel HSM d0 d1 d2 d3 x0 x1 x2;cases b with
 | false =>
   go_wp2_with fail;refine HLV.out.mono ?_;rintro y w3 ⟨rfl,hb3⟩;have HB3:=Hd (HBEL.out.trans (hb3.mono HBEL.out.size));clear hb3;go_wp2_with fail;go_ret;exact⟨rfl,HB3.out⟩
 | true =>
   by_cases hlen:(rr:Int)>60
   ·
    go_wp2_with fail;refine HLV.out.mono ?_;rintro y w3 ⟨rfl,hb3⟩;have HB3:=Hd (HBEL.out.trans (hb3.mono HBEL.out.size));clear hb3;go_wp2_with fail;go_ret;exact⟨rfl,HB3.out⟩
   have HSP:=Hd (HB.out (by first|rfl|trivial));obtain⟨n,hn⟩:∃ n:Nat,vars=(n:Nat):=⟨vars.toNat,by have:=HSP.out.lo;have:=HV.out;omega⟩;subst hn;have hn6:n<=6:=by have:=HSP.out.hi;have:=HV.out;omega
   have hn1:1<=n:=by have:=HSP.out.lo;have:=HV.out;omega
   have hes:q.es.length<=5:=HSP.out.es;have HSET:=Hd (HST.out w2 n HBEL.out HSP.out rfl _ rfl);clear HST HLV HB;go_wp2_with fail;refine HSET.out.mono ?_;rintro y w3 ⟨mb,vl,vx,wb,hs,nx,rfl,hbw,hsnd,hnx,o3,m3,V3,lt3,-⟩;have hhl:hs.length<=5:=by have:=congrArg List.length hsnd;simp at this;omega
   obtain⟨al,cl,hvl⟩:∃ a c,vl=.slice a hs.length c:=by
    obtain⟨a,c,e,_⟩:=lt3.l.own.slice;exact⟨a,c,by rw[e];simp[Zbh]⟩
   subst hvl;have HSUB:Hid (∀ p∈hs,p∈two++hs):=Hd fun p hp=>List.mem_append_right _ hp
   have hfl:(two++hs).length=2+hs.length:=by simp[two];omega
   have HROOM:Hid (∀ k,k<=192->k*2^n<=Zcd n):=Hd fun k hk=>Zhl hk
   have HCB:Hid (wb.cell? ⟨w.heap.size,0,none⟩=some (.int .i64 (n:Nat))):=Hd ((hbw.cell (p:=⟨w.heap.size,0,none⟩) (Zaa e0)).trans e0);have c0:=(lt3.below0.cell (p:=⟨w.heap.size,0,none⟩) (Zaa ((hbw.cell (p:=⟨w.heap.size,0,none⟩) (Zaa e0)).trans e0))).trans ((hbw.cell (p:=⟨w.heap.size,0,none⟩) (Zaa e0)).trans e0);have z0:=(lt3.below0.cell (p:=⟨w.heap.size+1,0,none⟩) (Zaa ((hbw.cell (p:=⟨w.heap.size+1,0,none⟩) (Zaa y0)).trans y0))).trans ((hbw.cell (p:=⟨w.heap.size+1,0,none⟩) (Zaa y0)).trans y0);have z1:=(lt3.below0.cell (p:=⟨w.heap.size+1,1,none⟩) (Zaa ((hbw.cell (p:=⟨w.heap.size+1,1,none⟩) (Zaa y1)).trans y1))).trans ((hbw.cell (p:=⟨w.heap.size+1,1,none⟩) (Zaa y1)).trans y1);have z2:=(lt3.below0.cell (p:=⟨w.heap.size+1,2,none⟩) (Zaa ((hbw.cell (p:=⟨w.heap.size+1,2,none⟩) (Zaa y2)).trans y2))).trans ((hbw.cell (p:=⟨w.heap.size+1,2,none⟩) (Zaa y2)).trans y2);have HZB0:=Hd ((hbw.cell (p:=⟨w.heap.size+1,0,none⟩) (Zaa y0)).trans y0);have HZB1:=Hd ((hbw.cell (p:=⟨w.heap.size+1,1,none⟩) (Zaa y1)).trans y1);have HZB2:=Hd ((hbw.cell (p:=⟨w.heap.size+1,2,none⟩) (Zaa y2)).trans y2);have HBB:Hid (Below w.heap.size w wb):=Hd (HBEL.out.trans (hbw.mono HBEL.out.size));have HRG:Hid (∀ p∈two++hs,p.1<nx):=Hd fun p hp=>(lt3.sat.range p hp).2
   have HL:=Hd ((lt3.withOd (Od':=fun _=>True) trivial).withSt (Wt':=SufW q.plan) (by rw[lt3.st.1];exact List.suffix_refl _));clear lt3 hbw hsnd HSET e0 e1 e2 e3 y0 y1 y2;have H0:Hid (StF Zhy n (Zcd n) wb mb (two++hs) nx q.plan [] w3):=Hd (StF.of HL.out.st HL.out.sat (by simp));have HNB:Hid (∀ k,k<w.heap.size->o3 k=none):=Hd fun k hk=>HL.out.sat.none0 (by have:=HBB.out.size;omega)
   have HBW3:Hid (Below w.heap.size w w3):=Hd (HBB.out.trans (HL.out.below0.mono HBB.out.size));have HSAT3:=Hd (show _/\_ from ⟨HL.out.st,HL.out.sat⟩);have HCK:=Hd (Zg0 E _ w3 (HX.out.below HBW3.out));obtain⟨er,her⟩:∃ er,er=(chkG E 1 0).1:=⟨_,rfl⟩;have HER:=Hd her;rw[<- her] at HCK;have cA:=c0;have zA0:=z0;have zA1:=z1;have zA2:=z2;clear c0 z0 z1 z2 HL her;go_wp2_with fail;refine HCK.out.mono ?_;rintro y w4 ⟨rfl,hb4⟩;have cB:=(hb4.cell (p:=⟨w.heap.size,0,none⟩) (Zaa cA)).trans cA;have zB0:=(hb4.cell (p:=⟨w.heap.size+1,0,none⟩) (Zaa zA0)).trans zA0;have zB1:=(hb4.cell (p:=⟨w.heap.size+1,1,none⟩) (Zaa zA1)).trans zA1;have zB2:=(hb4.cell (p:=⟨w.heap.size+1,2,none⟩) (Zaa zA2)).trans zA2;have HB34:=Hd hb4;have HBW4:Hid (Below w.heap.size w w4):=Hd (HBW3.out.trans (hb4.mono HBW3.out.size));have H1:=Hd (H0.out.below hb4);clear hb4 HCK H0 cA zA0 zA1 zA2
   by_cases her0:er=0
   ·
    subst her0;have hok:=Zv8 HX.out HER.out.symm;have hsz:=HRS.out hok.1;have hs60:E.size<=60:=by omega
    have HOK:=Hd hok;have HVS:=Hd (Zig E _ w4 hok.1 (HX.out.below HBW4.out));clear hok;go_wp2_with fail;refine HVS.out.mono ?_;rintro y w5 ⟨u,os,rfl,hsl,hol,hmem,hb5⟩;obtain⟨oa,oc,rfl,hoi,_⟩:=hsl;obtain⟨hm1,hm2⟩:=hmem HOK.out.2;have HM1:=Hd hm1;have cC:=(hb5.cell (p:=⟨w.heap.size,0,none⟩) (Zaa cB)).trans cB;have zC0:=(hb5.cell (p:=⟨w.heap.size+1,0,none⟩) (Zaa zB0)).trans zB0;have zC1:=(hb5.cell (p:=⟨w.heap.size+1,1,none⟩) (Zaa zB1)).trans zB1;have zC2:=(hb5.cell (p:=⟨w.heap.size+1,2,none⟩) (Zaa zB2)).trans zB2;have HB45:=Hd hb5;have HBW5:Hid (Below w.heap.size w w5):=Hd (HBW4.out.trans (hb5.mono HBW4.out.size));have hb35:Below w3.heap.size w3 w5:=HB34.out.trans (hb5.mono HB34.out.size);have H2:=Hd (H1.out.below hb5);have HIN:Hid (Zbg (fun k=>k<w.heap.size) w5 E (.agg #[.int .i64 op,.int .i64 ev,.slice xa xn xc])):=Hd (Zbg.keep (fun k hk=>HBW5.out.block k hk) E (Zn1 E HX.out))
    have HOF:Hid (∀ W,Below w5.heap.size w5 W->Calls Tryz.prog 54 #[.pointer (some ⟨mb,0,none⟩),.agg #[.int .i64 op,.int .i64 ev,.slice xa xn xc]] W fun y w' =>
     ((∃ v∈Zbe E,(n:Int)<=v)->y=.returned (.tuple #[.int .i64 0,.int .i64 9])/\Below W.heap.size W w')/\((∀ v∈Zbe E,v<(n:Int))->NewF Zhy n (Zcd n) wb mb (two++hs) nx q.plan (fnT E) o3 W y w')):=Hd fun W hb=>by
     have hs5:=HSAT3.out.2.below (hb35.trans (hb.mono hb35.size));exact Yal Zek hs5 (by omega) HOK.out.1 (Zbg.keep (fun k hk=>hb.block k (Nat.lt_of_lt_of_le hk HBW5.out.size)) E HIN.out) (fun k hk=>⟨Nat.lt_of_lt_of_le hk (Nat.le_trans HBW5.out.size hb.size),HNB.out k hk⟩) HOK.out.2 HSAT3.out.1 (by omega) (by rw[hfl];exact Zzt hs60 (by omega))
    clear hmem hm1 hb5 HVS HB45 hb35 cB zB0 zB1 zB2 HIN hsz
    by_cases hbig:∃ v∈Zbe E,(n:Int)<=v
    ·
     obtain⟨v,hv,hvn⟩:=hbig;have hvo:=(HM1.out v).2 hv;have hpos:0<os.length:=List.length_pos_iff.2 (fun e=>by rw[e] at hvo;simp at hvo);have hlast:=Zwu hm2 hvo;obtain⟨bo,off,rfl,ck⟩:=hoi.cells (os.length-1) (by omega);obtain⟨z,hz⟩:∃ z,z=at0 os (os.length-1):=⟨_,rfl⟩;rw[<- hz] at ck hlast;have hzn:z>=(n:Int):=by omega
     have hpz:(os.length:Int)>0:=by omega
     have hcast:(os.length:Int)-1=((os.length-1:Nat):Int):=by omega
     obtain⟨ln,hln⟩:∃ ln,ln=os.length-1:=⟨_,rfl⟩;rw[<- hln] at ck hcast;obtain⟨L,hL⟩:∃ L,L=os.length:=⟨_,rfl⟩;rw[<- hL] at hpz hcast ⊢;have hlz:(ln:Int)<(L:Int):=by omega
     have hlz2:ln<L:=by omega
     have hpz2:0<L:=by omega
     have hLm:L<=9223372036854775807:=by first|omega|skip
     have HO9:Hid (∀ W,Below w5.heap.size w5 W->Calls Tryz.prog 54 #[.pointer (some ⟨mb,0,none⟩),.agg #[.int .i64 op,.int .i64 ev,.slice xa xn xc]] W fun y w'=>y=.returned (.tuple #[.int .i64 0,.int .i64 9])/\Below W.heap.size W w'):=Hd fun W hb=>(HOF.out W hb).mono fun x w' hh=>hh.1 ⟨v,hv,hvn⟩
     clear hz hln hv hvn hvo hlast hm2 HM1 HOF hoi hL hpos;go_wp2_with fail
     go_quiet (fail)
     go_wp2_with fail;refine(HO9.out _ (Zaj (Below.refl _ _) _)).mono ?_;rintro y w7 ⟨rfl,hb7⟩;have HSS:=Hd ((H2.out.below (Zaj (Below.refl _ _) _)).below hb7);clear hb7 HO9 H2;have HLF:Hid (Calls Tryz.prog 30 #[.pointer (some ⟨mb,0,none⟩),.int .i64 (hs.length:Nat)] w7 fun x w'=>x=.returned (.bool true)/\w7=w'):=Hd (HSS.out.left hs.length (by omega) (by rw[hfl];omega));have HBL:=Hd HSS.out.below0;clear HSS;go_wp2_with fail;refine HLF.out.mono ?_;rintro y w' ⟨rfl,rfl⟩;have HLV:=Hd (Zel w7);go_wp2_with fail;refine HLV.out.mono ?_;rintro y w11 ⟨rfl,hb11⟩;have HFN:=Hd (HBB.out.trans ((HBL.out.trans (hb11.mono HBL.out.size)).mono HBB.out.size));clear hb11 HLV;go_wp2_with fail;go_ret;exact⟨rfl,HFN.out⟩
    ·
     have HSM2:Hid (∀ v∈Zbe E,v<(n:Int)):=Hd fun v hv=>by
      rcases Int.lt_or_le v n with h1|h1
      ·
       exact h1
      ·
       exact absurd ⟨v,hv,h1⟩ hbig
     have HON:Hid (∀ W,Below w5.heap.size w5 W->Calls Tryz.prog 54 #[.pointer (some ⟨mb,0,none⟩),.agg #[.int .i64 op,.int .i64 ev,.slice xa xn xc]] W fun y w'=>NewF Zhy n (Zcd n) wb mb (two++hs) nx q.plan (fnT E) o3 W y w'):=Hd fun W hb=>(HOF.out W hb).mono fun x w' hh=>hh.2 HSM2.out
     clear hbig HOF;rcases Nat.eq_zero_or_pos os.length with hz|hpos
     ·
      obtain⟨L,hL⟩:∃ L,L=os.length:=⟨_,rfl⟩;rw[<- hL] at hz ⊢;subst hz;clear hL hoi hol HM1 HSM2 hm2;go_wp2_with fail
      go_quiet (fail)
      go_wp2_with fail;refine(HON.out _ (Zaj (Below.refl _ _) _)).mono ?_;rintro y w7 ⟨rfl,o7,m7,V7,hc7,hw7,hs7⟩;have HS7:Hid (StF Zhy n (Zcd n) wb mb ((two++hs)++[(nx,fnT E)]) (nx+1) q.plan [] w7):=Hd (StF.of hw7 hs7 (by simp));have HB7:Hid (Below w.heap.size w w7):=Hd (HBB.out.trans (HS7.out.below0.mono HBB.out.size));have c7:=(HS7.out.below0.cell (p:=⟨w.heap.size,0,none⟩) (Zaa HCB.out)).trans HCB.out;have z70:=(HS7.out.below0.cell (p:=⟨w.heap.size+1,0,none⟩) (Zaa HZB0.out)).trans HZB0.out;have z71:=(HS7.out.below0.cell (p:=⟨w.heap.size+1,1,none⟩) (Zaa HZB1.out)).trans HZB1.out;have z72:=(HS7.out.below0.cell (p:=⟨w.heap.size+1,2,none⟩) (Zaa HZB2.out)).trans HZB2.out;have HTB:=Hd (Ze4 E _ n (by omega) w7 (by have:=HOK.out.1;omega) HOK.out.2 (HX.out.below HB7.out));clear hc7 hw7 hs7 HON H2;go_wp2_with fail;refine HTB.out.mono ?_;rintro y w8 ⟨v9,rfl,hv9,hb8⟩;have HS8:=Hd (HS7.out.below hb8);have HIS:=Hd (HS8.out.ask fun o m V hs=>Zx9 hs (by omega) (k:=nx) (F:=fnT E) (by simp) (OwnC.boolsIs hv9 (by rw[Zeo];exact Nat.le_trans (Nat.pow_le_pow_right (by omega) (show n<=6 by omega)) (by omega))));clear hb8 hv9 HTB HS7 c7 z70 z71 z72;go_wp2_with fail;refine HIS.out.mono ?_;rintro y w9 ⟨b,rfl,hb,hb9⟩;obtain rfl:=hb.2 (by first|rfl|trivial);have HSS:=Hd (HS8.out.below hb9);have HLF:Hid (Calls Tryz.prog 30 #[.pointer (some ⟨mb,0,none⟩),.int .i64 ((hs.length:Nat)+1)] w9 fun x w'=>x=.returned (.bool true)/\w9=w'):=Hd (HSS.out.left (hs.length+1) (by omega) (by simp[two]<;>omega));have HBL:=Hd HSS.out.below0;clear hb hb9 HIS HS8 HSS;go_wp2_with fail;refine HLF.out.mono ?_;rintro y w' ⟨rfl,rfl⟩;have HLV:=Hd (Zel w9);go_wp2_with fail;refine HLV.out.mono ?_;rintro y w11 ⟨rfl,hb11⟩;have HFN:=Hd (HBB.out.trans ((HBL.out.trans (hb11.mono HBL.out.size)).mono HBB.out.size));clear hb11 HLV;go_wp2_with fail;go_ret;exact⟨rfl,HFN.out⟩
     ·
      obtain⟨bo,off,rfl,ck⟩:=hoi.cells (os.length-1) (by omega);have hzn0:at0 os (os.length-1)<(n:Int):=HSM2.out _ ((HM1.out _).1 (by rw[Zcb (by omega)];exact List.getElem_mem _));obtain⟨z,hz⟩:∃ z,z=at0 os (os.length-1):=⟨_,rfl⟩;rw[<- hz] at ck hzn0;have hzn:¬ (z>=(n:Int)):=by omega
      have hcast:(os.length:Int)-1=((os.length-1:Nat):Int):=by omega
      obtain⟨ln,hln⟩:∃ ln,ln=os.length-1:=⟨_,rfl⟩;rw[<- hln] at ck hcast;obtain⟨L,hL⟩:∃ L,L=os.length:=⟨_,rfl⟩;rw[<- hL] at hcast ⊢;have hlz:(ln:Int)<(L:Int):=by omega
      have hlz2:ln<L:=by omega
      have hpz2:0<L:=by omega
      have hLm:L<=9223372036854775807:=by first|omega|skip
      clear hz hln hm2 HM1 HSM2 hoi hL hpos hzn0;go_wp2_with fail
      go_quiet (fail)
      go_wp2_with fail;refine(HON.out _ (Zaj (Below.refl _ _) _)).mono ?_;rintro y w7 ⟨rfl,o7,m7,V7,hc7,hw7,hs7⟩;have HS7:Hid (StF Zhy n (Zcd n) wb mb ((two++hs)++[(nx,fnT E)]) (nx+1) q.plan [] w7):=Hd (StF.of hw7 hs7 (by simp));have HB7:Hid (Below w.heap.size w w7):=Hd (HBB.out.trans (HS7.out.below0.mono HBB.out.size));have c7:=(HS7.out.below0.cell (p:=⟨w.heap.size,0,none⟩) (Zaa HCB.out)).trans HCB.out;have z70:=(HS7.out.below0.cell (p:=⟨w.heap.size+1,0,none⟩) (Zaa HZB0.out)).trans HZB0.out;have z71:=(HS7.out.below0.cell (p:=⟨w.heap.size+1,1,none⟩) (Zaa HZB1.out)).trans HZB1.out;have z72:=(HS7.out.below0.cell (p:=⟨w.heap.size+1,2,none⟩) (Zaa HZB2.out)).trans HZB2.out;have HTB:=Hd (Ze4 E _ n (by omega) w7 (by have:=HOK.out.1;omega) HOK.out.2 (HX.out.below HB7.out));clear hc7 hw7 hs7 HON H2;go_wp2_with fail;refine HTB.out.mono ?_;rintro y w8 ⟨v9,rfl,hv9,hb8⟩;have HS8:=Hd (HS7.out.below hb8);have HIS:=Hd (HS8.out.ask fun o m V hs=>Zx9 hs (by omega) (k:=nx) (F:=fnT E) (by simp) (OwnC.boolsIs hv9 (by rw[Zeo];exact Nat.le_trans (Nat.pow_le_pow_right (by omega) (show n<=6 by omega)) (by omega))));clear hb8 hv9 HTB HS7 c7 z70 z71 z72;go_wp2_with fail;refine HIS.out.mono ?_;rintro y w9 ⟨b,rfl,hb,hb9⟩;obtain rfl:=hb.2 (by first|rfl|trivial);have HSS:=Hd (HS8.out.below hb9);have HLF:Hid (Calls Tryz.prog 30 #[.pointer (some ⟨mb,0,none⟩),.int .i64 ((hs.length:Nat)+1)] w9 fun x w'=>x=.returned (.bool true)/\w9=w'):=Hd (HSS.out.left (hs.length+1) (by omega) (by simp[two]<;>omega));have HBL:=Hd HSS.out.below0;clear hb hb9 HIS HS8 HSS;go_wp2_with fail;refine HLF.out.mono ?_;rintro y w' ⟨rfl,rfl⟩;have HLV:=Hd (Zel w9);go_wp2_with fail;refine HLV.out.mono ?_;rintro y w11 ⟨rfl,hb11⟩;have HFN:=Hd (HBB.out.trans ((HBL.out.trans (hb11.mono HBL.out.size)).mono HBB.out.size));clear hb11 HLV;go_wp2_with fail;go_ret;exact⟨rfl,HFN.out⟩
   ·
    have HVS:=Hd (Zsw E _ w4 (HX.out.below HBW4.out) (by rw[<- HER.out];exact her0));have HOF:Hid (∀ W,Below w4.heap.size w4 W->Calls Tryz.prog 54 #[.pointer (some ⟨mb,0,none⟩),.agg #[.int .i64 op,.int .i64 ev,.slice xa xn xc]] W fun y w'=>y=.returned (.tuple #[.int .i64 0,.int .i64 er])/\Below W.heap.size W w'):=Hd fun W hb=>by
     have hh:=Zzo (HSAT3.out.2.below (HB34.out.trans (hb.mono HB34.out.size))) (HX.out.below (HBW4.out.trans (hb.mono HBW4.out.size))) (by rw[<- HER.out];exact her0);rw[<- HER.out] at hh;exact hh
    have hne1:(er == 0)=false:=by simpa using her0
    have hne2:(er != 0)=true:=by simpa using her0
    clear HER HSAT3;go_wp2_with fail;refine HVS.out.mono ?_;rintro y w5 ⟨rfl,hb5⟩;have cC:=(hb5.cell (p:=⟨w.heap.size,0,none⟩) (Zaa cB)).trans cB;have zC0:=(hb5.cell (p:=⟨w.heap.size+1,0,none⟩) (Zaa zB0)).trans zB0;have zC1:=(hb5.cell (p:=⟨w.heap.size+1,1,none⟩) (Zaa zB1)).trans zB1;have zC2:=(hb5.cell (p:=⟨w.heap.size+1,2,none⟩) (Zaa zB2)).trans zB2;have H2:=Hd (H1.out.below hb5);have HOF2:Hid (∀ W,Below w5.heap.size w5 W->Calls Tryz.prog 54 #[.pointer (some ⟨mb,0,none⟩),.agg #[.int .i64 op,.int .i64 ev,.slice xa xn xc]] W fun y w'=>y=.returned (.tuple #[.int .i64 0,.int .i64 er])/\Below W.heap.size W w'):=Hd fun W hb=>HOF.out W (hb5.trans (hb.mono hb5.size))
    clear hb5 HVS HOF H1 cB zB0 zB1 zB2;go_wp2_with fail
    go_quiet (fail)
    go_wp2_with fail;refine(HOF2.out _ (Zaj (Below.refl _ _) _)).mono ?_;rintro y w7 ⟨rfl,hb7⟩;have HSS:=Hd ((H2.out.below (Zaj (Below.refl _ _) _)).below hb7);clear hb7 HOF2 H2;have HLF:Hid (Calls Tryz.prog 30 #[.pointer (some ⟨mb,0,none⟩),.int .i64 (hs.length:Nat)] w7 fun x w'=>x=.returned (.bool true)/\w7=w'):=Hd (HSS.out.left hs.length (by omega) (by rw[hfl];omega));have HBL:=Hd HSS.out.below0;clear HSS;go_wp2_with fail;refine HLF.out.mono ?_;rintro y w' ⟨rfl,rfl⟩;have HLV:=Hd (Zel w7);go_wp2_with fail;refine HLV.out.mono ?_;rintro y w11 ⟨rfl,hb11⟩;have HFN:=Hd (HBB.out.trans ((HBL.out.trans (hb11.mono HBL.out.size)).mono HBB.out.size));clear hb11 HLV;go_wp2_with fail;go_ret;exact⟨rfl,HFN.out⟩
end Go.Proofs.YtmofaapnkidioaaGreat
