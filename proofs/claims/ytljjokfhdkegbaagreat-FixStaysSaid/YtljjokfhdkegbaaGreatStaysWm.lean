/- The walk of a law: StaysW. -/
import Derived.Test.YtljjokfhdkegbaaGreatI8
set_option linter.unusedSimpArgs false
set_option linter.unusedVariables false
set_option linter.unusedSectionVars false
set_option linter.unnecessarySimpa false
set_option maxRecDepth 100000
set_option maxHeartbeats 8000000
namespace Go.Proofs.YtljjokfhdkegbaaGreat
open Go.RowKit
theorem stays_walk (q:AskD) (ao ae ap:Option Addr) (co ce cp:Nat) (pp qq vv fr:Int) (w:World) (h:AskAt w q ao ae ap) :
 Calls Tryz.prog 9 #[askV q ao ae ap co ce cp,.int .i64 pp,.int .i64 qq,.int .i64 vv,.int .i64 fr] w fun y w'=>y=.returned (.bool true)/\Below w.heap.size w w':=by
 have HSM:Hid (∀ W,Below w.heap.size w W->∀ u,u=askV q ao ae ap co ce cp->Calls Tryz.prog 26 #[u] W fun y w'=>∃ b,y=.returned (.bool b)/\(b=true->Zkn q)/\Below W.heap.size W w'):=Hd fun W hb u hu=>by subst hu;exact Zup q ao ae ap co ce cp W (h.below hb)
 have HST:Hid (∀ W n,Below w.heap.size w W->Zkn q->q.vars=(n:Nat)->∀ u,u=askV q ao ae ap co ce cp->Calls Tryz.prog 27 #[u] W (SetP Zgp q n W)):=Hd fun W n hb hs hn u hu=>by subst hu;exact Zun Zdg q ao ae ap co ce cp W (h.below hb) hs n hn
 obtain⟨vars,hvars⟩:∃ z,z=q.vars:=⟨_,rfl⟩;have HV:=Hd hvars;obtain⟨plen,hplen⟩:∃ z,z=q.plan.length:=⟨_,rfl⟩;unfold askV at HSM HST ⊢;rw[<- hvars,<- hplen] at HSM HST ⊢;obtain⟨olen,holen⟩:∃ z,z=q.order.length:=⟨_,rfl⟩;obtain⟨elen,helen⟩:∃ z,z=q.es.length:=⟨_,rfl⟩;rw[<- holen,<- helen] at HSM HST ⊢;obtain⟨w1,hw1⟩:∃ w1,w1=w.alloc (.cells #[.int .i64 vars,.slice ao olen co,.slice ae elen ce,.slice ap plen cp] 39):=⟨_,rfl⟩;have HW1:Hid (_=w1):=Hd hw1.symm;have HB1:Hid (Below w.heap.size w w1):=by rw[hw1];exact Hd (Zaf _ _)
 have hblk:w1.heap[w.heap.size]?=some (.cells #[.int .i64 vars,.slice ao olen co,.slice ae elen ce,.slice ap plen cp] 39 (0,0)):=by rw[hw1];exact heap_alloc_new _ _
 have d0:w1.cell? ⟨w.heap.size,0,none⟩=some (.int .i64 vars):=by rw[cell_of_row _ _ 0 _ _ _ hblk];rfl
 have d1:w1.cell? ⟨w.heap.size,1,none⟩=some (.slice ao olen co):=by rw[cell_of_row _ _ 1 _ _ _ hblk];rfl
 have d2:w1.cell? ⟨w.heap.size,2,none⟩=some (.slice ae elen ce):=by rw[cell_of_row _ _ 2 _ _ _ hblk];rfl
 have d3:w1.cell? ⟨w.heap.size,3,none⟩=some (.slice ap plen cp):=by rw[cell_of_row _ _ 3 _ _ _ hblk];rfl
 clear h hw1 hblk hvars hplen holen helen
 go_enter Tryz.func9,Tryz.ntmps9
 go_upto_region 1 with fail;rw[HW1.out];go_wp2_with fail;refine(HSM.out _ HB1.out _ rfl).mono ?_;rintro y w2 ⟨b,rfl,hb,hbel⟩;have HB:=Hd hb;have HBEL:=Hd (HB1.out.trans (hbel.mono HB1.out.size));have e0:=(hbel.cell (p:=⟨w.heap.size,0,none⟩) (Zab d0)).trans d0;have e1:=(hbel.cell (p:=⟨w.heap.size,1,none⟩) (Zab d1)).trans d1;have e2:=(hbel.cell (p:=⟨w.heap.size,2,none⟩) (Zab d2)).trans d2;have e3:=(hbel.cell (p:=⟨w.heap.size,3,none⟩) (Zab d3)).trans d3;have HLV:=Hd (Zeb Zdg w2);clear hb hbel HSM d0 d1 d2 d3 HW1;cases b with
 | false =>
   go_wp2_with fail;refine HLV.out.mono ?_;rintro y w3 ⟨rfl,hb3⟩;have HB3:=Hd (HBEL.out.trans (hb3.mono HBEL.out.size));clear hb3;go_wp2_with fail;go_ret;exact⟨rfl,HB3.out⟩
 | true =>
   by_cases hv4:vars>4
   ·
    go_wp2_with fail;refine HLV.out.mono ?_;rintro y w3 ⟨rfl,hb3⟩;have HB3:=Hd (HBEL.out.trans (hb3.mono HBEL.out.size));clear hb3;go_wp2_with fail;go_ret;exact⟨rfl,HB3.out⟩
   have HSP:=Hd (HB.out (by first|rfl|trivial));obtain⟨n,hn⟩:∃ n:Nat,vars=(n:Nat):=⟨vars.toNat,by have:=HSP.out.lo;have:=HV.out;omega⟩;subst hn;have hn6:n<=6:=by have:=HSP.out.hi;have:=HV.out;omega
   have hn1:1<=n:=by have:=HSP.out.lo;have:=HV.out;omega
   have hes:q.es.length<=5:=HSP.out.es;have HSET:=Hd (HST.out w2 n HBEL.out HSP.out rfl _ rfl);clear HST HLV HB;go_wp2_with fail;refine HSET.out.mono ?_;rintro y w3 ⟨mb,vl,vx,wb,hs,nx,rfl,hbw,hsnd,hnx,o3,m3,V3,lt3,-⟩;have hhl:hs.length<=5:=by have:=congrArg List.length hsnd;simp at this;omega
   obtain⟨al,cl,hvl⟩:∃ a c,vl=.slice a hs.length c:=by
    obtain⟨a,c,e,_⟩:=lt3.l.own.slice;exact⟨a,c,by rw[e];simp[Za0]⟩
   subst hvl;have HSUB:Hid (∀ p∈hs,p∈two++hs):=Hd fun p hp=>List.mem_append_right _ hp
   have hfl:(two++hs).length=2+hs.length:=by simp[two];omega
   have HROOM:Hid (∀ k,k<=192->k*2^n<=Zb7 n):=Hd fun k hk=>Zjr hk
   have HCB:Hid (wb.cell? ⟨w.heap.size,0,none⟩=some (.int .i64 (n:Nat))):=Hd ((hbw.cell (p:=⟨w.heap.size,0,none⟩) (Zab e0)).trans e0);have c0:=(lt3.below0.cell (p:=⟨w.heap.size,0,none⟩) (Zab ((hbw.cell (p:=⟨w.heap.size,0,none⟩) (Zab e0)).trans e0))).trans ((hbw.cell (p:=⟨w.heap.size,0,none⟩) (Zab e0)).trans e0);have c1:=(lt3.below0.cell (p:=⟨w.heap.size,1,none⟩) (Zab ((hbw.cell (p:=⟨w.heap.size,1,none⟩) (Zab e1)).trans e1))).trans ((hbw.cell (p:=⟨w.heap.size,1,none⟩) (Zab e1)).trans e1);have c2:=(lt3.below0.cell (p:=⟨w.heap.size,2,none⟩) (Zab ((hbw.cell (p:=⟨w.heap.size,2,none⟩) (Zab e2)).trans e2))).trans ((hbw.cell (p:=⟨w.heap.size,2,none⟩) (Zab e2)).trans e2);have c3:=(lt3.below0.cell (p:=⟨w.heap.size,3,none⟩) (Zab ((hbw.cell (p:=⟨w.heap.size,3,none⟩) (Zab e3)).trans e3))).trans ((hbw.cell (p:=⟨w.heap.size,3,none⟩) (Zab e3)).trans e3);have HBB:Hid (Below w.heap.size w wb):=Hd (HBEL.out.trans (hbw.mono HBEL.out.size));have HRG:Hid (∀ p∈two++hs,p.1<nx):=Hd fun p hp=>(lt3.sat.range p hp).2
   have HL:=Hd ((lt3.withOd (Od':=fun _=>True) trivial).withSt (Wt':=SufW q.plan) (by rw[lt3.st.1];exact List.suffix_refl _));clear lt3 hbw hsnd HSET e0 e1 e2 e3;have hn4:n<=4:=by omega
   have HSH:=Hd (shape_any HL.out HSUB.out (by omega) (by omega) 0 pp qq vv (.slice ao olen co) (.slice ae elen ce) (.slice ap plen cp));go_wp2_with fail;refine HSH.out.mono ?_;rintro y w4 ⟨kf,P,r,kg,Q,s,v',rfl,hv',hF,hG,hr,hs',hb4⟩;obtain⟨ta,tc,et,-⟩:=hr.tab;subst et;obtain⟨ua,uc,eu,-⟩:=hs'.tab;subst eu;have hv'n:v'<(n:Int):=by rw[hv'];split<;>omega
   have HFG:=Hd (show (kf,P)∈two++hs/\(kg,Q)∈two++hs/\v'<(n:Int) from ⟨hF,hG,hv'n⟩);have HL4:=Hd (HL.out.below hb4);have d0:=(hb4.cell (p:=⟨w.heap.size,0,none⟩) (Zab c0)).trans c0;clear hr hs' hb4 HSH c0 c1 c2 c3 hF hG hv' hv'n HL;go_upto_region 7 with fail;obtain⟨w5,hw5⟩:∃ w,w=w4.alloc (.cells #[.int .i64 0,.slice ta (2^n) tc,.slice ua (2^n) uc,.int .i64 v'] 76):=⟨_,rfl⟩;have hb45:Below w4.heap.size w4 w5:=by rw[hw5];exact Zaf _ _
   have hx5:w5.heap[w4.heap.size]?=some (.cells #[.int .i64 0,.slice ta (2^n) tc,.slice ua (2^n) uc,.int .i64 v'] 76 (0,0)):=by rw[hw5];exact heap_alloc_new _ _
   rw[<- hw5];have d1:=(hb45.cell (p:=⟨w.heap.size,0,none⟩) (Zab d0)).trans d0;have HO1:=Hd (one_law (HL4.out.below hb45) HSUB.out (by omega) (by omega) fr);have HL5:=Hd (HL4.out.below hb45);have HX5:=Hd hx5;clear d0 hw5 hb45 hx5 HL4;go_wp2_with fail;refine HO1.out.mono ?_;rintro y w6 ⟨kb,R,rb,rfl,hR,_,hb6⟩;have HL6:=Hd (HL5.out.below hb6);have hx6:=(hb6.block w4.heap.size (Array.getElem?_eq_some_iff.1 HX5.out).1).trans HX5.out;obtain⟨x0,x1,x2,x3,xf⟩:=cells4 hx6;obtain⟨fs,hfs⟩:∃ fs,fs=two++hs:=⟨_,rfl⟩;have h6:FxS Zgp n (Zb7 n) wb mb q.plan NoB o3 w6 (fun _ _=>True) fs nx w6:=by
    rw[hfs];exact⟨o3,m3,V3,ChgX.of_below (Below.refl _ _) o3 _,HL6.out.st,HL6.out.sat,trivial⟩
   have HNX:=Hd (next_any (fun _ _ _ _ _ _=>trivial) h6 0 v' kf kg (.slice ta (2^n) tc) (.slice ua (2^n) uc));have HR:=Hd (show (kf,P)∈fs/\(kg,Q)∈fs/\(kb,R)∈fs/\v'<(n:Int) by rw[hfs];exact⟨HFG.out.1,HFG.out.2.1,hR,HFG.out.2.2⟩);have HB2:Hid (B2 fs):=Hd (by rw[hfs];exact HL6.out.b2);have HDP:Hid (DepF n P/\DepF n Q/\DepF n R):=Hd ⟨HL6.out.sat.dep HFG.out.1,HL6.out.sat.dep HFG.out.2.1,HL6.out.sat.dep hR⟩;have HFL:Hid (fs.length<=7):=Hd (by rw[hfs];omega);have HNN:=Hd hnx;clear d1 hb6 hx6 hfs h6 hR HO1 HL5 HX5 HL6 HFG xf hnx;go_wp2_with fail;refine HNX.out.mono ?_;rintro y w7 ⟨bm,bs,bf,bg,rfl,hlt7,h7⟩;have h7':FxS Zgp n (Zb7 n) wb mb q.plan NoB o3 w6 (NxB bm bs bf bg mb 0 v' kf kg) fs nx w7:=h7.withB fun o m V _ hh=>hh.2
   have hF0:=next_f (K:=Zgp) (n:=n) (room:=Zb7 n) (L:=60) (C:=NoB) (w0:=wb) (mb:=mb) (ws0:=q.plan) (kind:=0) (v:=v') (kf:=kf) (kg:=kg) (P:=P) (Q:=Q) (bm:=bm) (bs:=bs) (bf:=bf) (bg:=bg) Zdg HR.out.2.2.2 (room_fix hn4);obtain⟨Φ,hΦ⟩:∃ Φ,Φ=nextF 0 v' P Q:=⟨_,rfl⟩;rw[<- hΦ] at hF0;have HF:=Hd hF0;have HM:Hid (MonF Φ):=Hd (by rw[hΦ];exact next0_mon v' P Q);have HDD:Hid (∀ X,DepF n X->DepF n (Φ X)):=Hd (by rw[hΦ];exact fun X hX=>next0_dep HDP.out.1 HDP.out.2.1 hX);have HBS:Hid (∀ l,∀ p∈[(kf,P),(kg,Q)],p∈fs++l):=Hd fun l p hp=>by
    simp only[List.mem_cons,List.not_mem_nil,or_false] at hp;rcases hp with rfl|rfl
    ·
     exact List.mem_append_left _ HR.out.1
    ·
     exact List.mem_append_left _ HR.out.2.1
   have hp16:2^n<=16:=pow_le16 hn4;have HP16:=Hd hp16;have HLE:=Hd (Znr Zdg HF.out 0 (by omega) h7' HB2.out (fun p hp=>by have:=HBS.out [] p hp;simpa using this) (by have:=HNN.out;omega) (by have:=HFL.out;omega));have HRM:Hid (∀ l,l<=64->l*2^n<=Zb7 n):=Hd fun l hl=>Nat.le_trans (Nat.mul_le_mul_right _ hl) (Nat.le_trans (Nat.le_add_right _ _) (room_fix hn4))
   have eg:=enters_next1;clear x0 x1 x2 x3 HNX h7 h7' hF0 hΦ hlt7 hp16;go_wp2_with fail;refine HLE.out.mono ?_;rintro y w8 hgo
   obtain⟨p,k,nx8,s8,rfl,hend,hlo8,hhi8,h8⟩:=goes_end hgo (by omega) (by omega) (fun hO=>by
    have:=iter_le (n:=n) HM.out (fun _ e=>by cases e) (iterF_dep HDD.out (Zf9 n false)) hO;have:=HP16.out;omega)
   have HEND:=Hd hend;have HC:Hid (Calls Tryz.prog 142 #[.int .i64 p,.pointer (some ⟨bm,0,none⟩),.pointer (some ⟨bs,0,none⟩),.pointer (some ⟨bf,0,none⟩),.pointer (some ⟨bg,0,none⟩)] w8 _):=Hd (FunC.callO HF.out h8 (HB2.out.app _) (HBS.out _) (k:=p) (F:=Zez Φ (fun _=>false) k) (by simp) (by have:=HNN.out;omega) (by have:=HFL.out;simp;omega) rfl);have HI8:=Hd (show nx<=nx8/\nx8<=nx+500000 from ⟨hlo8,hhi8⟩);clear hgo hend h8 HLE hlo8 hhi8;go_wp2_with fail;refine HC.out.mono ?_;rintro y w9 ⟨p2,nx9,rfl,hlo9,hhi9,h9⟩;have HSM:=Hd (FxS.sameB h9 (k:=p) (l:=p2) (F:=Zez Φ (fun _=>false) k) (G:=Φ (Zez Φ (fun _=>false) k)) (b:=true) (by simp) (by simp) ⟨fun _=>HEND.out.2.symm,fun _=>rfl⟩);rw[List.append_assoc] at h9;have HI9:=Hd (show nx<=nx9/\nx9<=nx+501000 by have:=HI8.out;omega);have HUN:=Hd (until_any Zdg HF.out (fun k e=>e.elim) 0 (by omega) h9 (HB2.out.app _) (HBS.out _) (q:=kb) (Q:=R) (List.mem_append_left _ HR.out.2.2.1) (by have:=HNN.out;have:=HI9.out;omega) (by have:=HFL.out;simp;omega) (HRM.out _ (by omega)));clear hlo9 hhi9 h9 HC HI8;go_wp2_with fail;refine HSM.out.mono ?_;rintro y w' ⟨rfl,rfl⟩;go_wp2_with fail;refine HUN.out.mono ?_;rintro y wA hgo;have HON:Hid (∀ F,DepF n F->DepF n (orF R (Φ F))):=Hd fun F hF=>Zjf HDP.out.2.2 (Zf9 n true) (HDD.out F hF)
   obtain⟨u,ku,nxA,sA,rfl,hend,hloA,hhiA,hA⟩:=goes_end hgo (by omega) (by omega) (fun hO=>by
    have:=iter_le (n:=n) (until_mon (Q:=R) HM.out) until_up (iterF_dep HON.out HDP.out.2.2) hO;have:=HP16.out;omega)
   have HEU:=Hd hend;have HIA:=Hd (show nx<=nxA/\nxA<=nx+1002000 by have:=HI9.out;omega);have hd:∀ i,DepF n (Zb9 Φ R i):=fun i=>(Zqa HDD.out HDP.out.2.2 i).2
   have HDR:=Hd hd;rw[List.append_assoc] at hA;have hlow:∀ j:Nat,LowB wA.heap.size (NxB bm bs bf bg mb 0 v' kf kg):=fun _=>by
    obtain⟨_,_,_,_,_,_,q1,q2,_,q4,q5⟩:=hA;exact NxB.low ⟨Zab q1.1,Zab q2.1,Zab q4.1,Zab q5.1⟩
   have HRK:=Hd (Zwb Zdg HF.out (fun k e=>e.elim) hlow 0 (by omega) hA (HB2.out.app _) (HBS.out _) (q:=kb) (Q:=R) (List.mem_append_left _ HR.out.2.2.1) hd (most:=4096) (M:=4096) (by decide) (by omega) (by have:=HNN.out;have:=HIA.out;omega) (by have:=HFL.out;have:=HP16.out;simp;omega) (HROOM.out _ (by omega)));have HSZ:=Hd hA.below0.size;clear hgo hend hA HUN HSM hd hlow hloA hhiA HI9;go_wp2_with fail;refine HRK.out.mono ?_;rintro y wB ⟨k2,s2,rs,nxB,vl2,wh,rfl,_,hloB,hhiB,hsnd,hwh,hB⟩;obtain⟨i,rfl,rfl,hw⟩:∃ i,k2=i+1/\wh=true/\Zi6 Φ R i:=by
    rcases hwh with ⟨_,rfl,hr,_⟩|⟨rfl,i,rfl,_,hw⟩
    ·
     have:=Zwe HDR.out hr;have:=HP16.out;omega
    ·
     exact⟨i,rfl,rfl,hw⟩
   have hi16:i<=16:=Nat.le_trans (Zwe HDR.out hw.1) HP16.out;have hrl:rs.length=i+1:=by have:=congrArg List.length hsnd;simpa using this
   obtain rfl:ku=i:=HEU.out.uniq (whole_end HM.out hw);have hall:Zim orF (Zi9 1) (rs.map Prod.snd)=Zez (fun F=>orF R (Φ F)) R ku:=by rw[hsnd,rings_fold,all_iter HM.out]
   obtain⟨al2,cl2,hvl2⟩:∃ a c,vl2=.slice a (ku+1) c:=by
    obtain⟨_,_,_,_,_,_,_,hl⟩:=hB;obtain⟨a,c,e,_⟩:=hl.ints (by simp[hrl];omega);exact⟨a,c,by rw[e];simp[hrl]⟩
   subst hvl2;obtain⟨fsB,hfsB⟩:∃ l,l=fs++([(p,Zez Φ (fun _=>false) k)]++[(p2,Φ (Zez Φ (fun _=>false) k))]++[(u,Zez (fun F=>orF R (Φ F)) R ku)])++rs:=⟨_,rfl⟩;have hB':FxS Zgp n (Zb7 n) wb mb q.plan NoB o3 w6 (fun W o=>NxB bm bs bf bg mb 0 v' kf kg W o/\LawL W o (wA.heap.size+5) (.slice al2 (ku+1) cl2) (rs.map Prod.fst)) fsB nxB wB:=by rw[hfsB];simpa [List.append_assoc] using hB
   have HKB:Hid (Zdy (fun W o=>NxB bm bs bf bg mb 0 v' kf kg W o/\LawL W o (wA.heap.size+5) (.slice al2 (ku+1) cl2) (rs.map Prod.fst))):=Hd (NxB.keepB.and keepL);have HLB:Hid (fsB.length<=27):=Hd (by rw[hfsB];have:=HFL.out;simp[hrl];omega);have HSB:Hid ((∀ x∈rs,x∈fsB)/\(u,Zez (fun F=>orF R (Φ F)) R ku)∈fsB):=Hd (by rw[hfsB];exact⟨fun x hx=>List.mem_append_right _ hx,by simp⟩);have HOR:=Hd (FxS.orL Zdg HKB.out hB' (rs:=rs) (fun o hh=>hh.2) (by have:=HSZ.out;omega) HSB.out.1 (by omega) (by have:=HNN.out;have:=HIA.out;omega) (HROOM.out _ (by have:=HLB.out;omega)));rw[hall] at HOR;have HRL:=Hd hrl;have HSD:=Hd hsnd;have HKI:=Hd hi16;have HNB:=Hd (show nxB<=549755000000 by have:=HNN.out;have:=HIA.out;omega);clear hB hB' hwh hfsB hall hrl hsnd hi16 hw HRK hloB hhiB;go_wp2_with fail;refine HOR.out.mono ?_;rintro y wC ⟨rfl,hC⟩;obtain⟨fsC,hfsC⟩:∃ l,l=fsB++[(nxB,Zez (fun F=>orF R (Φ F)) R ku)]:=⟨_,rfl⟩;rw[<- hfsC] at hC
   have HSC:Hid ((∀ x∈rs,x∈fsC)/\(u,Zez (fun F=>orF R (Φ F)) R ku)∈fsC/\(nxB,Zez (fun F=>orF R (Φ F)) R ku)∈fsC/\fsC.length<=28):=Hd (by
    rw[hfsC];exact⟨fun x hx=>List.mem_append_left _ (HSB.out.1 x hx),List.mem_append_left _ HSB.out.2,by simp,by have:=HLB.out;simp;omega⟩)
   obtain⟨Bw,hBw⟩:∃ B:World->Own->Prop,B=fun W o=>NxB bm bs bf bg mb 0 v' kf kg W o/\LawL W o (wA.heap.size+5) (.slice al2 (ku+1) cl2) (rs.map Prod.fst):=⟨_,rfl⟩
   rw[<- hBw] at hC HKB;obtain⟨St,hSt⟩:∃ St:World->Prop,St=FxS Zgp n (Zb7 n) wb mb q.plan NoB o3 w6 Bw fsC (nxB+1):=⟨_,rfl⟩;rw[<- hSt] at hC;have HSB:Hid (∀ W W',St W->Below W.heap.size W W'->St W'):=Hd (by rw[hSt];exact fun W W' h hb=>h.below HKB.out hb)
   have HMT:Hid (∀ i j ka kc W,j<i->i<=ku->ka=at0 (rs.map Prod.fst) i->kc=at0 (rs.map Prod.fst) j->St W->Calls Tryz.prog 60 #[.pointer (some ⟨mb,0,none⟩),.int .i64 ka,.int .i64 kc] W fun x w'=>x=.returned (.tuple #[.bool false,.int .i64 0])/\St w'):=Hd (by
    rw[hSt];rintro i j ka kc W hji hik rfl rfl h;have hrl:=HRL.out;have key:∀ t,t<=ku->(at0 (rs.map Prod.fst) t,Zb9 Φ R t)∈fsC:=fun t ht=>by
     have h1:t<rs.length:=by omega
     rw[Zca (by simpa using h1)];have h2:(rs.map Prod.snd)[t]'(by simpa using h1)=Zb9 Φ R t:=by simp[HSD.out]
     have e:((rs.map Prod.fst)[t]'(by simpa using h1),Zb9 Φ R t)=rs[t]:=by rw[<- h2];simp
     rw[e];exact HSC.out.1 _ (List.getElem_mem h1)
    exact FxS.meets0 Zdg HKB.out h (key i hik) (key j (by omega)) (and_none (rings_apart Φ R hji)) (by have:=HNB.out;omega) (HROOM.out _ (by have:=HSC.out.2.2.2;omega)))
   have HCL:Hid (∀ W,St W->∀ t,t<=ku->∃ b off,al2=some ⟨b,off,none⟩/\W.cell? ⟨b,off+t,none⟩=some (.int .i64 (at0 (rs.map Prod.fst) t))):=Hd (by
    rw[hSt,hBw];rintro W ⟨_,_,_,_,_,_,_,hl⟩ t ht;obtain⟨a,c,e,hz,_⟩:=hl.ints (by simp[HRL.out];have:=HKI.out;omega);injection e with e1 e2 e3
    subst e1;exact hz.cells t (by simp[HRL.out];omega))
   have HSS:Hid (∀ W,St W->Calls Tryz.prog 58 #[.pointer (some ⟨mb,0,none⟩),.int .i64 u,.int .i64 nxB] W fun x w'=>x=.returned (.tuple #[.bool true,.int .i64 0])/\W=w'):=Hd (by
    rw[hSt];exact fun W h=>FxS.sameB h (F:=Zez (fun F=>orF R (Φ F)) R ku) (G:=Zez (fun F=>orF R (Φ F)) R ku) (b:=true) HSC.out.2.1 HSC.out.2.2.1 (by simp))
   have HB0:Hid (∀ W,St W->Below wb.heap.size wb W):=Hd (by rw[hSt];exact fun W h=>h.below0);have HC2:=Hd hC;clear hC hfsC hBw hSt HOR;obtain⟨bb,off,eal,_⟩:=HCL.out wC HC2.out 0 (Nat.zero_le _);subst eal;have HCE:Hid (∀ W,St W->∀ t,t<=ku->W.cell? ⟨bb,off+t,none⟩=some (.int .i64 (at0 (rs.map Prod.fst) t))):=Hd fun W h t ht=>by
    obtain⟨b2,off2,e2,hc⟩:=HCL.out W h t ht;injection e2 with e2
    injection e2 with h1 h2 _
    subst h1 h2;exact hc
   clear HCL;go_wp2_with fail
   go_loopw [33,34,35,36,152,156] (fun s33 s34 s35 s36 s152 s156 wr=>∃ i:Nat,i<=ku+1/\s152=.int .i64 i/\Hid (St wr)) (fun _ _ _ _ s152 _ _=>ku+1-(intOf s152).toNat)
   case atStart=>exact⟨0,Nat.zero_le _,rfl,HC2⟩
   case round =>
    obtain⟨i,hi,rfl,HS1⟩:=hrel;clear HC2
    by_cases hlt:i<ku+1
    ·
     have hz1:(i:Int)<(ku:Int)+1:=by omega
     go_wp2_with fail
     go_loopw [34,35,36,156] (fun s34 s35 s36 s156 wr=>∃ j:Nat,j<=i/\s156=.int .i64 j/\Hid (St wr)) (fun _ _ _ s156 _=>i-(intOf s156).toNat)
     case atStart=>exact⟨0,Nat.zero_le _,rfl,HS1⟩
     case round =>
      obtain⟨j,hj,rfl,HS2⟩:=hrel;clear HS1
      by_cases hjl:j<i
      ·
       have hz2:(j:Int)<(i:Int):=by omega
       have hz3:(j:Int)<(ku:Int)+1:=by omega
       obtain⟨ki,hki⟩:∃ x,x=at0 (rs.map Prod.fst) i:=⟨_,rfl⟩;obtain⟨kj,hkj⟩:∃ x,x=at0 (rs.map Prod.fst) j:=⟨_,rfl⟩;have HKK:Hid (∀ W,St W->W.cell? ⟨bb,off+i,none⟩=some (.int .i64 ki)/\W.cell? ⟨bb,off+j,none⟩=some (.int .i64 kj)):=Hd fun W h=>by rw[hki,hkj];exact⟨HCE.out W h i (by omega),HCE.out W h j (by omega)⟩
       have HMM:Hid (∀ W,St W->Calls Tryz.prog 60 #[.pointer (some ⟨mb,0,none⟩),.int .i64 ki,.int .i64 kj] W fun x w'=>x=.returned (.tuple #[.bool false,.int .i64 0])/\St w'):=Hd fun W h=>HMT.out i j ki kj W hjl (by omega) hki hkj h
       have HS3:=Hd (HSB.out wr wr.drew HS2.out (Zah wr 1));obtain⟨ci,cj⟩:=HKK.out wr HS2.out;clear hki hkj;go_upto_region 25 with fail;refine Zap (fun W:World=>W.cell? ⟨bb,off+i,none⟩=some (.int .i64 ki)/\W.cell? ⟨bb,off+j,none⟩=some (.int .i64 kj)/\Hid (St W)) false 15 [(0,false),(1,false),(2,false),(3,false),(4,false),(5,false),(6,false),(7,false),(8,false),(9,true),(10,false),(11,false),(12,false),(13,false),(14,false)] (by kernel_rfl) (by kernel_rfl) ⟨(HKK.out _ HS3.out).1,(HKK.out _ HS3.out).2,HS3⟩ ?_;simp only[planned,Zc7]
       iterate 9
        refine Zaq rfl ?_;apply Exists.intro;refine⟨fun w' hw=>?_,?_⟩
        ·
         obtain⟨h1,h2,_⟩:=hw;go_simp;rfl
        simp only[Zai]
       refine Zvw (v:=.tuple #[.bool false,.int .i64 0]) rfl (by go_simp) ((HMM.out wr.drew HS3.out).mono ?_) ?_
       ·
        rintro x w' ⟨rfl,hs⟩;exact⟨rfl,(HKK.out _ hs).1,(HKK.out _ hs).2,Hd hs⟩
       rintro w' ⟨_,_,HS4⟩;simp only[Zai]
       iterate 5
        refine Zaq rfl ?_;apply Exists.intro;refine⟨fun w' hw=>?_,?_⟩
        ·
         obtain⟨h1,h2,_⟩:=hw;go_simp;rfl
        simp only[Zai]
       refine Zeu ?_;clear ci cj HS2 HS3 HKK HMM;go_wp2_with fail;go_roundw
       case rel=>exact⟨j+1,by omega,by go_num,HS4⟩
       case measure=>simp[intOf];omega
      ·
       go_wp2_with fail;go_roundw
       case rel=>exact⟨i+1,by omega,by go_num,HS2⟩
       case measure=>simp[intOf];omega
    ·
     have HBL:=Hd (HB0.out wr HS1.out);have HSM2:=Hd (HSS.out wr HS1.out);have HLV:=Hd (Zeb Zdg wr);go_wp2_with fail;refine HSM2.out.mono ?_;rintro y w' ⟨rfl,rfl⟩;go_wp2_with fail;refine HLV.out.mono ?_;rintro y wm ⟨rfl,hbm⟩;have HFN:=Hd (HBB.out.trans ((HBL.out.trans (hbm.mono HBL.out.size)).mono HBB.out.size));clear hbm HLV HSM2;go_wp2_with fail;go_ret;exact⟨rfl,HFN.out⟩
end Go.Proofs.YtljjokfhdkegbaaGreat
