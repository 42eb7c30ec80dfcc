/- The walk of a law: CofactorsW. -/
import Derived.Test.YtmofaapnkidioaaGreatR8
set_option linter.unusedSimpArgs false
set_option linter.unusedVariables false
set_option linter.unusedSectionVars false
set_option linter.unnecessarySimpa false
set_option maxRecDepth 100000
set_option maxHeartbeats 8000000
namespace Go.Proofs.YtmofaapnkidioaaGreat
open Go.RowKit
theorem cofactors_walk (q:AskD) (ao ae ap:Option Addr) (co ce cp:Nat) (pk:Nat) (hpk:pk<256) (la:Option Addr) (lc:Nat) (ls:List (Int×Bool)) (w:World) (h:AskAt w q ao ae ap) (hls:Zdw w la ls) :
 Calls Tryz.prog 8 #[askV q ao ae ap co ce cp,.int .u8 pk,.slice la ls.length lc] w fun y w'=>y=.returned (.bool true)/\Below w.heap.size w w':=by
 have HSM:Hid (∀ W,Below w.heap.size w W->∀ u,u=askV q ao ae ap co ce cp->Calls Tryz.prog 15 #[u] W fun y w'=>∃ b,y=.returned (.bool b)/\(b=true->Zfd q)/\Below W.heap.size W w'):=Hd fun W hb u hu=>by subst hu;exact Zg6 q ao ae ap co ce cp W (h.below hb)
 have HST:Hid (∀ W n,Below w.heap.size w W->Zfd q->q.vars=(n:Nat)->∀ u,u=askV q ao ae ap co ce cp->Calls Tryz.prog 17 #[u] W (SetP Za2 q n W)):=Hd fun W n hb hs hn u hu=>by subst hu;exact Zg5 Zbk q ao ae ap co ce cp W (h.below hb) hs n hn
 obtain⟨vars,hvars⟩:∃ z,z=q.vars:=⟨_,rfl⟩;have HV:=Hd hvars;obtain⟨plen,hplen⟩:∃ z,z=q.plan.length:=⟨_,rfl⟩;unfold askV at HSM HST ⊢;rw[<- hvars,<- hplen] at HSM HST ⊢;obtain⟨olen,holen⟩:∃ z,z=q.order.length:=⟨_,rfl⟩;obtain⟨elen,helen⟩:∃ z,z=q.es.length:=⟨_,rfl⟩;rw[<- holen,<- helen] at HSM HST ⊢;obtain⟨w1,hw1⟩:∃ w1,w1=w.alloc (.cells #[.int .i64 vars,.slice ao olen co,.slice ae elen ce,.slice ap plen cp] 26):=⟨_,rfl⟩;have HW1:Hid (_=w1):=Hd hw1.symm;have HB1:Hid (Below w.heap.size w w1):=by rw[hw1];exact Hd (Zad _ _)
 have hblk:w1.heap[w.heap.size]?=some (.cells #[.int .i64 vars,.slice ao olen co,.slice ae elen ce,.slice ap plen cp] 26 (0,0)):=by rw[hw1];exact heap_alloc_new _ _
 have d0:w1.cell? ⟨w.heap.size,0,none⟩=some (.int .i64 vars):=by rw[cell_of_row _ _ 0 _ _ _ hblk];rfl
 have d1:w1.cell? ⟨w.heap.size,1,none⟩=some (.slice ao olen co):=by rw[cell_of_row _ _ 1 _ _ _ hblk];rfl
 have d2:w1.cell? ⟨w.heap.size,2,none⟩=some (.slice ae elen ce):=by rw[cell_of_row _ _ 2 _ _ _ hblk];rfl
 have d3:w1.cell? ⟨w.heap.size,3,none⟩=some (.slice ap plen cp):=by rw[cell_of_row _ _ 3 _ _ _ hblk];rfl
 have HLS:=Hd hls;have hlsl:=hls.len;clear h hw1 hblk hvars hplen holen helen hls
 go_enter Tryz.func8,Tryz.ntmps8
 go_upto_region 1 with fail;rw[HW1.out];go_wp2_with fail;refine(HSM.out _ HB1.out _ rfl).mono ?_;rintro y w2 ⟨b,rfl,hb,hbel⟩;have HB:=Hd hb;have HBEL:=Hd (HB1.out.trans (hbel.mono HB1.out.size));have e0:=(hbel.cell (p:=⟨w.heap.size,0,none⟩) (Zaa d0)).trans d0;have e1:=(hbel.cell (p:=⟨w.heap.size,1,none⟩) (Zaa d1)).trans d1;have e2:=(hbel.cell (p:=⟨w.heap.size,2,none⟩) (Zaa d2)).trans d2;have e3:=(hbel.cell (p:=⟨w.heap.size,3,none⟩) (Zaa d3)).trans d3;have HLV:=Hd (Zbm w2);clear hb hbel HSM d0 d1 d2 d3 HW1;cases b with
 | false =>
   go_wp2_with fail;refine HLV.out.mono ?_;rintro y w3 ⟨rfl,hb3⟩;have HB3:=Hd (HBEL.out.trans (hb3.mono HBEL.out.size));clear hb3;go_wp2_with fail;go_ret;exact⟨rfl,HB3.out⟩
 | true =>
   by_cases hlen:(ls.length:Int)>8
   ·
    go_wp2_with fail;refine HLV.out.mono ?_;rintro y w3 ⟨rfl,hb3⟩;have HB3:=Hd (HBEL.out.trans (hb3.mono HBEL.out.size));clear hb3;go_wp2_with fail;go_ret;exact⟨rfl,HB3.out⟩
   have HSP:=Hd (HB.out (by first|rfl|trivial));obtain⟨n,hn⟩:∃ n:Nat,vars=(n:Nat):=⟨vars.toNat,by have:=HSP.out.lo;have:=HV.out;omega⟩;subst hn;have hn6:n<=6:=by have:=HSP.out.hi;have:=HV.out;omega
   have hn1:1<=n:=by have:=HSP.out.lo;have:=HV.out;omega
   have hes:q.es.length<=5:=HSP.out.es;have HSET:=Hd (HST.out w2 n HBEL.out HSP.out rfl _ rfl);clear HST HLV HB;go_wp2_with fail;refine HSET.out.mono ?_;rintro y w3 ⟨mb,vl,vx,wb,hs,nx,rfl,hbw,hsnd,hnx,o3,m3,V3,lt3,-⟩;have hhl:hs.length<=5:=by have:=congrArg List.length hsnd;simp at this;omega
   obtain⟨al,cl,hvl⟩:∃ a c,vl=.slice a hs.length c:=by
    obtain⟨a,c,e,_⟩:=lt3.l.own.slice;exact⟨a,c,by rw[e];simp[Zbe]⟩
   subst hvl;have HSUB:Hid (∀ p∈hs,p∈two++hs):=Hd fun p hp=>List.mem_append_right _ hp
   have hfl:(two++hs).length=2+hs.length:=by simp[two];omega
   have HROOM:Hid (∀ k,k<=192->k*2^n<=Zbn n):=Hd fun k hk=>Zdp hk
   have HCB:Hid (wb.cell? ⟨w.heap.size,0,none⟩=some (.int .i64 (n:Nat))):=Hd ((hbw.cell (p:=⟨w.heap.size,0,none⟩) (Zaa e0)).trans e0);have c0:=(lt3.below0.cell (p:=⟨w.heap.size,0,none⟩) (Zaa ((hbw.cell (p:=⟨w.heap.size,0,none⟩) (Zaa e0)).trans e0))).trans ((hbw.cell (p:=⟨w.heap.size,0,none⟩) (Zaa e0)).trans e0);have HBB:Hid (Below w.heap.size w wb):=Hd (HBEL.out.trans (hbw.mono HBEL.out.size));have HRG:Hid (∀ p∈two++hs,p.1<nx):=Hd fun p hp=>(lt3.sat.range p hp).2
   have HL:=Hd ((lt3.withOd (Od':=fun _=>True) trivial).withSt (Wt':=SufW q.plan) (by rw[lt3.st.1];exact List.suffix_refl _));clear lt3 hbw hsnd HSET e0 e1 e2 e3;have h8:ls.length<=8:=by omega
   have HP1:=Hd (Zf8 HL.out HSUB.out (by omega) (by omega) pk hpk);go_wp2_with fail;refine HP1.out.mono ?_;rintro y wA ⟨a1,F1,r1,rfl,hm1,hf1,hbA⟩;have HLA:=Hd (HL.out.below hbA);have HM1:=Hd hm1;have cA:=(hbA.cell (p:=⟨w.heap.size,0,none⟩) (Zaa c0)).trans c0
   have H0:Hid (StF Za2 n (Zbn n) wb mb (two++hs) nx q.plan [(r1,F1)] wA):=Hd (StF.of HLA.out.st HLA.out.sat (by
    intro p hp;simp only[List.mem_cons,List.not_mem_nil,or_false] at hp;subst hp;exact hf1))
   have HBWA:Hid (Below w.heap.size w wA):=Hd (HBB.out.trans (HLA.out.below0.mono HBB.out.size));have HLSA:=Hd (HLS.out.below HBWA.out)
   have HNL:Hid (ls≠[]->∀ x,la=some x->o3 x.block=none):=Hd fun hne x hx=>HLA.out.sat.none0 (by
    have hl:x.block<w.heap.size:=by subst hx;exact HLS.out.lt hne
    have:=HBB.out.size;omega)
   have HCO:=Hd (Ze0 HLA.out.sat (by omega) HM1.out (c:=lc) HLSA.out HNL.out HLA.out.st (by omega) (fun _=>by
    have h3:=Zkm (n:=n) (c:=(two++hs).length+ls.length) (by rw[hfl];omega);rw[Nat.add_mul,Nat.add_assoc] at h3;exact h3))
   obtain⟨er,her⟩:∃ er,er=Zet n ls:=⟨_,rfl⟩;have HER:=Hd her;have HRL:Hid (∀ W,Below w.heap.size w W->Calls Tryz.prog 42 #[.slice la ls.length lc,.int .i64 n] W fun x w'=>x=.returned (.int .i64 er)/\Below W.heap.size W w'):=Hd fun W hb=>by rw[her];exact Zrn n (HLS.out.below hb)
   rw[<- her] at HCO;have hee:(er != er)=false:=by simp
   have HLF1:=Hd hf1;clear hf1 hbA HP1 HL c0 hm1 her HNL HLSA
   by_cases her0:er=0
   ·
    subst her0;clear hee
    have HALL:Hid (∀ p∈ls,0<=p.1/\p.1<(n:Int)):=Hd (by
     have:=HER.out;unfold Zet at this
     by_cases e:∀ p∈ls,0<=p.1/\p.1<(n:Int)
     ·
      exact e
     ·
      rw[if_neg e] at this;exact absurd this (by decide))
    have HC:Hid (Calls Tryz.prog 19 #[.pointer (some ⟨mb,0,none⟩),.int .i64 a1,.slice la ls.length lc] wA fun x w'=>x=.returned (.tuple #[.int .i64 nx,.int .i64 0])/\∃ o' m' V',ChgX NoB o3 o' wA w'/\m'.waits <:+ q.plan/\SatE Za2 n (fun _=>True) (Zbn n) wb mb ((two++hs)++[(nx,Zcm ls F1)]) (nx+1) w' o' m' V'):=Hd (HCO.out.mono fun x w' hx=>hx.1 rfl);have HRT:=Hd (show LawF wA o3 r1 (tabB n F1) from HLF1.out);clear HCO;go_wp2_with fail;refine HC.out.mono ?_;rintro y w4 ⟨rfl,o4,m4,V4,hc4,hw4,hs4⟩
    have HSS0:Hid (StF Za2 n (Zbn n) wb mb ((two++hs)++[(nx,Zcm ls F1)]) (nx+1) q.plan [(r1,F1)] w4):=Hd (StF.of hw4 hs4 (by
     intro p hp;simp only[List.mem_cons,List.not_mem_nil,or_false] at hp;subst hp;exact HRT.out.chg hc4))
    have hR4:=HRT.out.chg hc4;obtain⟨ua,uc,hue,hua,hun⟩:=hR4.is;rw[Za4] at hue;subst hue;have HUA:=Hd hua;have HUN:=Hd hun;have HB4:Hid (Below w.heap.size w w4):=Hd (HBB.out.trans (HSS0.out.below0.mono HBB.out.size));have c4:=(HSS0.out.below0.cell (p:=⟨w.heap.size,0,none⟩) (Zaa HCB.out)).trans HCB.out;have HL4:=Hd (HRL.out w4 HB4.out);clear hc4 hw4 hs4 hR4 hua hun HC HRT H0 HLF1 HLA cA HBWA;go_wp2_with fail;refine HL4.out.mono ?_;rintro y w5 ⟨rfl,hb5⟩;have HS5:=Hd (HSS0.out.below hb5);have HRF:=Hd (Zll n (by omega) F1 (cu:=uc) (c:=lc) (HUA.out.below hb5) HUN.out (HLS.out.below (HB4.out.trans (hb5.mono HB4.out.size))) HALL.out);clear hb5 HL4 HSS0 c4 HUA HRL;go_wp2_with fail;refine HRF.out.mono ?_;rintro y w6 ⟨v9,rfl,hv9,hb6⟩;have HS6:=Hd (HS5.out.below hb6);have HIS:=Hd (HS6.out.ask fun o m V hs=>Zz3 hs (by omega) (k:=nx) (F:=Zcm ls F1) (by simp) hv9);clear hb6 hv9 HRF HS5;go_wp2_with fail;refine HIS.out.mono ?_;rintro y w7 ⟨b,rfl,hb,hb7⟩;obtain rfl:=hb.2 (by first|rfl|trivial);have HSS:=Hd (HS6.out.below hb7);have HFL:Hid ((two++hs).length=2+hs.length):=Hd hfl;have HLF:Hid (Calls Tryz.prog 30 #[.pointer (some ⟨mb,0,none⟩),.int .i64 ((hs.length:Nat)+1)] w7 fun x w'=>x=.returned (.bool true)/\w7=w'):=Hd (HSS.out.left (hs.length+1) (by omega) (by simp[two]<;>omega));have HBL:=Hd HSS.out.below0;clear hb hb7 HIS HS6 HSS;go_wp2_with fail;refine HLF.out.mono ?_;rintro y w' ⟨rfl,rfl⟩;have HLV:=Hd (Zbm w7);go_wp2_with fail;refine HLV.out.mono ?_;rintro y w11 ⟨rfl,hb11⟩;have HFN:=Hd (HBB.out.trans ((HBL.out.trans (hb11.mono HBL.out.size)).mono HBB.out.size));clear hb11 HLV;go_wp2_with fail;go_ret;exact⟨rfl,HFN.out⟩
   ·
    have HC:Hid (Calls Tryz.prog 19 #[.pointer (some ⟨mb,0,none⟩),.int .i64 a1,.slice la ls.length lc] wA fun x w'=>x=.returned (.tuple #[.int .i64 0,.int .i64 er])/\Below wA.heap.size wA w'):=Hd (HCO.out.mono fun x w' hx=>hx.2 her0);have hne1:(er == 0)=false:=by simpa using her0
    have hne2:(er != 0)=true:=by simpa using her0
    clear HCO her0 HER HLF1;go_wp2_with fail;refine HC.out.mono ?_;rintro y w4 ⟨rfl,hb4⟩;have HS4:=Hd (H0.out.below hb4);have c4:=(hb4.cell (p:=⟨w.heap.size,0,none⟩) (Zaa cA)).trans cA;have HL4:=Hd (HRL.out w4 (HBWA.out.trans (hb4.mono HBWA.out.size)));clear hb4 HC H0 HLA cA HRL;go_wp2_with fail;refine HL4.out.mono ?_;rintro y w5 ⟨rfl,hb5⟩;have HSS:=Hd (HS4.out.below hb5);have HFL:Hid ((two++hs).length=2+hs.length):=Hd hfl;have HLF:Hid (Calls Tryz.prog 30 #[.pointer (some ⟨mb,0,none⟩),.int .i64 (hs.length:Nat)] w5 fun x w'=>x=.returned (.bool true)/\w5=w'):=Hd (HSS.out.left hs.length (by omega) (by have:=HFL.out;omega));have HBL:=Hd HSS.out.below0;clear hb5 HL4 HS4 HSS c4;go_wp2_with fail;refine HLF.out.mono ?_;rintro y w' ⟨rfl,rfl⟩;have HLV:=Hd (Zbm w5);go_wp2_with fail;refine HLV.out.mono ?_;rintro y w11 ⟨rfl,hb11⟩;have HFN:=Hd (HBB.out.trans ((HBL.out.trans (hb11.mono HBL.out.size)).mono HBB.out.size));clear hb11 HLV;go_wp2_with fail;go_ret;exact⟨rfl,HFN.out⟩
end Go.Proofs.YtmofaapnkidioaaGreat
