/- The walk of a law: RanksW. -/
import Derived.Test.YtkbegdkpboklpaaGreatL9
set_option linter.unusedSimpArgs false
set_option linter.unusedVariables false
set_option linter.unusedSectionVars false
set_option linter.unnecessarySimpa false
set_option maxRecDepth 100000
set_option maxHeartbeats 8000000
namespace Go.Proofs.YtkbegdkpboklpaaGreat
open Go.RowKit
theorem ranks_walk (q:AskD) (ao ae ap:Option Addr) (co ce cp:Nat) (kind pp qq vv fr most:Int) (w:World) (h:AskAt w q ao ae ap) :
 Calls Tryz.prog 6 #[askV q ao ae ap co ce cp,.int .i64 kind,.int .i64 pp,.int .i64 qq,.int .i64 vv,.int .i64 fr,.int .i64 most] w fun y w'=>y=.returned (.bool true)/\Below w.heap.size w w':=by
 have HSM:Hid (∀ W,Below w.heap.size w W->∀ u,u=askV q ao ae ap co ce cp->Calls Tryz.prog 19 #[u] W fun y w'=>∃ b,y=.returned (.bool b)/\(b=true->Zlr q)/\Below W.heap.size W w'):=Hd fun W hb u hu=>by subst hu;exact Zwq q ao ae ap co ce cp W (h.below hb)
 have HST:Hid (∀ W n,Below w.heap.size w W->Zlr q->q.vars=(n:Nat)->∀ u,u=askV q ao ae ap co ce cp->Calls Tryz.prog 20 #[u] W (SetP Zh5 q n W)):=Hd fun W n hb hs hn u hu=>by subst hu;exact Zwn Zeu q ao ae ap co ce cp W (h.below hb) hs n hn
 obtain⟨vars,hvars⟩:∃ z,z=q.vars:=⟨_,rfl⟩;have HV:=Hd hvars;obtain⟨plen,hplen⟩:∃ z,z=q.plan.length:=⟨_,rfl⟩;unfold askV at HSM HST ⊢;rw[<- hvars,<- hplen] at HSM HST ⊢;obtain⟨olen,holen⟩:∃ z,z=q.order.length:=⟨_,rfl⟩;obtain⟨elen,helen⟩:∃ z,z=q.es.length:=⟨_,rfl⟩;rw[<- holen,<- helen] at HSM HST ⊢;obtain⟨w1,hw1⟩:∃ w1,w1=w.alloc (.cells #[.int .i64 vars,.slice ao olen co,.slice ae elen ce,.slice ap plen cp] 39):=⟨_,rfl⟩;have HW1:Hid (_=w1):=Hd hw1.symm;have HB1:Hid (Below w.heap.size w w1):=by rw[hw1];exact Hd (Zad _ _)
 have hblk:w1.heap[w.heap.size]?=some (.cells #[.int .i64 vars,.slice ao olen co,.slice ae elen ce,.slice ap plen cp] 39 (0,0)):=by rw[hw1];exact heap_alloc_new _ _
 have d0:w1.cell? ⟨w.heap.size,0,none⟩=some (.int .i64 vars):=by rw[cell_of_row _ _ 0 _ _ _ hblk];rfl
 have d1:w1.cell? ⟨w.heap.size,1,none⟩=some (.slice ao olen co):=by rw[cell_of_row _ _ 1 _ _ _ hblk];rfl
 have d2:w1.cell? ⟨w.heap.size,2,none⟩=some (.slice ae elen ce):=by rw[cell_of_row _ _ 2 _ _ _ hblk];rfl
 have d3:w1.cell? ⟨w.heap.size,3,none⟩=some (.slice ap plen cp):=by rw[cell_of_row _ _ 3 _ _ _ hblk];rfl
 clear h hw1 hblk hvars hplen holen helen
 go_enter Tryz.func6,Tryz.ntmps6
 go_upto_region 1 with fail;rw[HW1.out];go_wp2_with fail;refine(HSM.out _ HB1.out _ rfl).mono ?_;rintro y w2 ⟨b,rfl,hb,hbel⟩;have HB:=Hd hb;have HBEL:=Hd (HB1.out.trans (hbel.mono HB1.out.size));have e0:=(hbel.cell (p:=⟨w.heap.size,0,none⟩) (Zaa d0)).trans d0;have e1:=(hbel.cell (p:=⟨w.heap.size,1,none⟩) (Zaa d1)).trans d1;have e2:=(hbel.cell (p:=⟨w.heap.size,2,none⟩) (Zaa d2)).trans d2;have e3:=(hbel.cell (p:=⟨w.heap.size,3,none⟩) (Zaa d3)).trans d3;have HLV:=Hd (Zkm Zeu w2);clear hb hbel HSM d0 d1 d2 d3 HW1;cases b with
 | false =>
   go_wp2_with fail;refine HLV.out.mono ?_;rintro y w3 ⟨rfl,hb3⟩;have HB3:=Hd (HBEL.out.trans (hb3.mono HBEL.out.size));clear hb3;go_wp2_with fail;go_ret;exact⟨rfl,HB3.out⟩
 | true =>
   by_cases hv4:vars>4
   ·
    go_wp2_with fail;refine HLV.out.mono ?_;rintro y w3 ⟨rfl,hb3⟩;have HB3:=Hd (HBEL.out.trans (hb3.mono HBEL.out.size));clear hb3;go_wp2_with fail;go_ret;exact⟨rfl,HB3.out⟩
   have HSP:=Hd (HB.out (by first|rfl|trivial));obtain⟨n,hn⟩:∃ n:Nat,vars=(n:Nat):=⟨vars.toNat,by have:=HSP.out.lo;have:=HV.out;omega⟩;subst hn;have hn6:n<=6:=by have:=HSP.out.hi;have:=HV.out;omega
   have hn1:1<=n:=by have:=HSP.out.lo;have:=HV.out;omega
   have hes:q.es.length<=5:=HSP.out.es;have HSET:=Hd (HST.out w2 n HBEL.out HSP.out rfl _ rfl);clear HST HLV HB;go_wp2_with fail;refine HSET.out.mono ?_;rintro y w3 ⟨mb,vl,vx,wb,hs,nx,rfl,hbw,hsnd,hnx,o3,m3,V3,lt3,-⟩;have hhl:hs.length<=5:=by have:=congrArg List.length hsnd;simp at this;omega
   obtain⟨al,cl,hvl⟩:∃ a c,vl=.slice a hs.length c:=by
    obtain⟨a,c,e,_⟩:=lt3.l.own.slice;exact⟨a,c,by rw[e];simp[Za1]⟩
   subst hvl;have HSUB:Hid (∀ p∈hs,p∈two++hs):=Hd fun p hp=>List.mem_append_right _ hp
   have hfl:(two++hs).length=2+hs.length:=by simp[two];omega
   have HROOM:Hid (∀ k,k<=192->k*2^n<=Zce n):=Hd fun k hk=>Zku hk
   have HCB:Hid (wb.cell? ⟨w.heap.size,0,none⟩=some (.int .i64 (n:Nat))):=Hd ((hbw.cell (p:=⟨w.heap.size,0,none⟩) (Zaa e0)).trans e0);have c0:=(lt3.below0.cell (p:=⟨w.heap.size,0,none⟩) (Zaa ((hbw.cell (p:=⟨w.heap.size,0,none⟩) (Zaa e0)).trans e0))).trans ((hbw.cell (p:=⟨w.heap.size,0,none⟩) (Zaa e0)).trans e0);have c1:=(lt3.below0.cell (p:=⟨w.heap.size,1,none⟩) (Zaa ((hbw.cell (p:=⟨w.heap.size,1,none⟩) (Zaa e1)).trans e1))).trans ((hbw.cell (p:=⟨w.heap.size,1,none⟩) (Zaa e1)).trans e1);have c2:=(lt3.below0.cell (p:=⟨w.heap.size,2,none⟩) (Zaa ((hbw.cell (p:=⟨w.heap.size,2,none⟩) (Zaa e2)).trans e2))).trans ((hbw.cell (p:=⟨w.heap.size,2,none⟩) (Zaa e2)).trans e2);have c3:=(lt3.below0.cell (p:=⟨w.heap.size,3,none⟩) (Zaa ((hbw.cell (p:=⟨w.heap.size,3,none⟩) (Zaa e3)).trans e3))).trans ((hbw.cell (p:=⟨w.heap.size,3,none⟩) (Zaa e3)).trans e3);have HBB:Hid (Below w.heap.size w wb):=Hd (HBEL.out.trans (hbw.mono HBEL.out.size));have HRG:Hid (∀ p∈two++hs,p.1<nx):=Hd fun p hp=>(lt3.sat.range p hp).2
   have HL:=Hd ((lt3.withOd (Od':=fun _=>True) trivial).withSt (Wt':=SufW q.plan) (by rw[lt3.st.1];exact List.suffix_refl _));clear lt3 hbw hsnd HSET e0 e1 e2 e3;have hn4:n<=4:=by omega
   have HSH:=Hd (Zwo HL.out HSUB.out (by omega) (by omega) kind pp qq vv (.slice ao olen co) (.slice ae elen ce) (.slice ap plen cp));go_wp2_with fail;refine HSH.out.mono ?_;rintro y w4 ⟨kf,P,r,kg,Q,s,v',rfl,hv',hF,hG,hr,hs',hb4⟩;obtain⟨ta,tc,et,-⟩:=hr.tab;subst et;obtain⟨ua,uc,eu,-⟩:=hs'.tab;subst eu;have hv'n:v'<(n:Int):=by rw[hv'];split<;>omega
   have HFG:=Hd (show (kf,P)∈two++hs/\(kg,Q)∈two++hs/\v'<(n:Int) from ⟨hF,hG,hv'n⟩);have HL4:=Hd (HL.out.below hb4);have d0:=(hb4.cell (p:=⟨w.heap.size,0,none⟩) (Zaa c0)).trans c0;have HTP:=Hd (show LawF w4 o3 (.slice ta (2^n) tc) (tabB n P)/\LawF w4 o3 (.slice ua (2^n) uc) (tabB n Q) from ⟨hr,hs'⟩);clear hr hs' hb4 HSH c0 c1 c2 c3 hF hG hv' hv'n HL;go_upto_region 7 with fail;obtain⟨w5,hw5⟩:∃ w,w=w4.alloc (.cells #[.int .i64 kind,.slice ta (2^n) tc,.slice ua (2^n) uc,.int .i64 v'] 57):=⟨_,rfl⟩;have hb45:Below w4.heap.size w4 w5:=by rw[hw5];exact Zad _ _
   have hx5:w5.heap[w4.heap.size]?=some (.cells #[.int .i64 kind,.slice ta (2^n) tc,.slice ua (2^n) uc,.int .i64 v'] 57 (0,0)):=by rw[hw5];exact heap_alloc_new _ _
   rw[<- hw5];have d1:=(hb45.cell (p:=⟨w.heap.size,0,none⟩) (Zaa d0)).trans d0;have HO1:=Hd (Zqu (HL4.out.below hb45) HSUB.out (by omega) (by omega) fr);have HL5:=Hd (HL4.out.below hb45);have HX5:=Hd hx5;have HB45:=Hd hb45;have HO4:Hid (o3 w4.heap.size=none):=Hd (HL4.out.sat.lt.none (Nat.le_refl _));clear d0 hw5 hb45 hx5 HL4;go_wp2_with fail;refine HO1.out.mono ?_;rintro y w6 ⟨kb,R,rb,rfl,hR,hrb,hb6⟩;obtain⟨va,vc,ev,-⟩:=hrb.tab;subst ev;have HT6:=Hd (show LawF w6 o3 (.slice ta (2^n) tc) (tabB n P)/\LawF w6 o3 (.slice ua (2^n) uc) (tabB n Q)/\LawF w6 o3 (.slice va (2^n) vc) (tabB n R) from ⟨(HTP.out.1.chg (Zb3 HB45.out o3)).chg (Zb3 hb6 o3),(HTP.out.2.chg (Zb3 HB45.out o3)).chg (Zb3 hb6 o3),hrb⟩);have HX6:=Hd ((hb6.block w4.heap.size (Array.getElem?_eq_some_iff.1 HX5.out).1).trans HX5.out);have HL6:=Hd (HL5.out.below hb6);have hx6:=(hb6.block w4.heap.size (Array.getElem?_eq_some_iff.1 HX5.out).1).trans HX5.out;obtain⟨x0,x1,x2,x3,xf⟩:=cells4 hx6;obtain⟨fs,hfs⟩:∃ fs,fs=two++hs:=⟨_,rfl⟩;have h6:FxS Zh5 n (Zce n) wb mb q.plan NoB o3 w6 (fun _ _=>True) fs nx w6:=by
    rw[hfs];exact⟨o3,m3,V3,ChgX.of_below (Below.refl _ _) o3 _,HL6.out.st,HL6.out.sat,trivial⟩
   have HNX:=Hd (Zx0 (fun _ _ _ _ _ _=>trivial) h6 kind v' kf kg (.slice ta (2^n) tc) (.slice ua (2^n) uc));have HR:=Hd (show (kf,P)∈fs/\(kg,Q)∈fs/\(kb,R)∈fs/\v'<(n:Int) by rw[hfs];exact⟨HFG.out.1,HFG.out.2.1,hR,HFG.out.2.2⟩);have HB2:Hid (B2 fs):=Hd (by rw[hfs];exact HL6.out.b2);have HDP:Hid (DepF n P/\DepF n Q/\DepF n R):=Hd ⟨HL6.out.sat.dep HFG.out.1,HL6.out.sat.dep HFG.out.2.1,HL6.out.sat.dep hR⟩;have HFSE:=Hd hfs;have HFL:Hid (fs.length<=7):=Hd (by rw[hfs];omega);have HNN:=Hd hnx;have HL6':=HL6;clear d1 hb6 hx6 hfs h6 hR HO1 HL5 HX5 HL6 HFG xf hnx HTP HB45 hrb;go_wp2_with fail;refine HNX.out.mono ?_;rintro y w7 ⟨bm,bs,bf,bg,rfl,hlt7,h7⟩;have h7':FxS Zh5 n (Zce n) wb mb q.plan NoB o3 w6 (NxB bm bs bf bg mb kind v' kf kg) fs nx w7:=h7.withB fun o m V _ hh=>hh.2
   have hF0:=Ybw (K:=Zh5) (n:=n) (room:=Zce n) (L:=60) (C:=NoB) (w0:=wb) (mb:=mb) (ws0:=q.plan) (kind:=kind) (v:=v') (kf:=kf) (kg:=kg) (P:=P) (Q:=Q) (bm:=bm) (bs:=bs) (bf:=bf) (bg:=bg) Zeu HR.out.2.2.2 (Zr0 hn4);obtain⟨Φ,hΦ⟩:∃ Φ,Φ=Zeh kind v' P Q:=⟨_,rfl⟩;rw[<- hΦ] at hF0;have HF:=Hd hF0;have HDD:Hid (∀ X,DepF n X->DepF n (Φ X)):=Hd (by rw[hΦ];exact fun X hX=>Zvy HDP.out.1 HDP.out.2.1 hX);have HBS:Hid (∀ l,∀ p∈[(kf,P),(kg,Q)],p∈fs++l):=Hd fun l p hp=>by
    simp only[List.mem_cons,List.not_mem_nil,or_false] at hp;rcases hp with rfl|rfl
    ·
     exact List.mem_append_left _ HR.out.1
    ·
     exact List.mem_append_left _ HR.out.2.1
   have hp16:2^n<=16:=pow_le16 hn4;have HP16:=Hd hp16;have HRM:Hid (∀ l,l<=64->l*2^n<=Zce n):=Hd fun l hl=>Nat.le_trans (Nat.mul_le_mul_right _ hl) (Nat.le_trans (Nat.le_add_right _ _) (Zr0 hn4))
   have eg:=Zja;have hd:∀ i,DepF n (Zci Φ R i):=fun i=>(Zrv HDD.out HDP.out.2.2 i).2
   have HDR:=Hd hd;obtain⟨M,hM⟩:∃ M:Nat,min (max most 0) 4096=(M:Int):=⟨(min (max most 0) 4096).toNat,by omega⟩;have HMM:=Hd hM;have HPH:=Hd hΦ;have hlow:∀ j:Nat,LowB w7.heap.size (NxB bm bs bf bg mb kind v' kf kg):=fun _=>NxB.low hlt7
   have hC7:ChgX NoB o3 o3 w6 w6:=ChgX.of_below (Below.refl _ _) o3 NoB;have HRK:=Hd (Zyc Zeu HF.out (fun k e=>e.elim) hlow 0 (by omega) h7' HB2.out (fun p hp=>by have:=HBS.out [] p hp;simpa using this) (q:=kb) (Q:=R) HR.out.2.2.1 hd (most:=most) (M:=M) hM (by omega) (by have:=HNN.out;omega) (by have:=HFL.out;have:=HP16.out;omega) (HROOM.out _ (by omega)))
   have X67:Hid (w6.heap.size<=w7.heap.size):=Hd (by
    obtain⟨_,_,_,q1,_⟩:=h7';exact q1.size)
   have HNO:Hid (o3 w4.heap.size=none/\w4.heap.size<w6.heap.size):=Hd ⟨HO4.out,(Array.getElem?_eq_some_iff.1 HX6.out).1⟩;have HAT:Hid (∀ fs' nx' W' (B':World->Own->Prop),FxS Zh5 n (Zce n) wb mb q.plan NoB o3 w6 B' fs' nx' W'->TabA n W' (.slice ta (2^n) tc) P/\TabA n W' (.slice ua (2^n) uc) Q/\Zbw W' (.slice va (2^n) vc) (tabB n R)/\(∀ k,(Value.slice va (2^n) vc).ownBlock=some k->k<W'.heap.size)/\W'.heap[w4.heap.size]?=some (.cells #[.int .i64 kind,.slice ta (2^n) tc,.slice ua (2^n) uc,.int .i64 v'] 57 (0,0))):=Hd fun fs' nx' W' B' h=>by
    obtain⟨o',m',V',q1,_⟩:=h;have t1:=HT6.out.1.chg q1;have t2:=HT6.out.2.1.chg q1;have t3:=HT6.out.2.2.chg q1;exact⟨t1.tab,t2.tab,t3.is,fun k hk=>(t3.no k hk).1,(q1.block _ HNO.out.2 HNO.out.1 (fun e=>e)).trans HX6.out⟩
   clear x0 x1 x2 x3 HNX h7 h7' hF0 hΦ hlt7 hp16 hd hlow hC7 hM;go_wp2_with fail;refine HRK.out.mono ?_;rintro y wB ⟨k2,s2,rs,nxB,vl2,wh,rfl,hkM,hloB,hhiB,hsnd,hwh,hB⟩;have h1:=HAT.out _ _ _ _ hB;obtain⟨x0,x1,x2,x3,xf⟩:=cells4 h1.2.2.2.2;have HRF:=Hd (refRank_any (n:=n) hn4 (kind:=kind) HR.out.2.2.2 h1.1 h1.2.1 h1.2.2.1 h1.2.2.2.1 HPH.out HDR.out HDP.out.2.2);unfold Zik at HRF;have HBB2:=Hd hB;have HWH:=Hd hwh;have HSD:=Hd hsnd;clear h1 hB hwh hsnd xf HRK;go_wp2_with fail;refine HRF.out.mono ?_;rintro y wC ⟨i0,uu,BB,rfl,hBB,hw0,hnod,hbC⟩;have hrl:rs.length=k2:=by have:=congrArg List.length HSD.out;simpa using this
   have hi16:i0<=16:=Nat.le_trans (Zyf HDR.out hw0.1) HP16.out;have hkk:(wh=true/\k2=i0+1\/wh=false/\k2<=i0)/\min (max most 0) ((i0:Int)+1)=(k2:Int):=by
    have hM:=HMM.out;rcases HWH.out with ⟨h1,h2,h3,_⟩|⟨h1,i,h2,_,h3⟩
    ·
     have h4:=hw0.le h3;exact⟨.inr ⟨h1,h4⟩,by omega⟩
    ·
     obtain rfl:=h3.uniq hw0;exact⟨.inl ⟨h1,h2⟩,by omega⟩
   obtain⟨hcase,hmin⟩:=hkk;have hC:=HBB2.out.below (NxB.keepB.and keepL) hbC;obtain⟨oC,mC,VC,q1,q2,q3,_,q4⟩:=hC;obtain⟨al2,cl2,hvl2⟩:∃ a c,vl2=.slice a k2 c:=by
    obtain⟨a,c,e,_⟩:=q4.ints (by simp[hrl];omega);exact⟨a,c,by rw[e];simp[hrl]⟩
   subst hvl2;have hsd:=HSD.out
   obtain⟨gu,cu,euu,hcu,hLR⟩:=lawR_nod (fs:=fs++rs) q4 hnod hrl (by simp) (by simp;omega) (fun j h h2=>by
    have h3:(rs.map Prod.snd)[j]'(by simpa using h)=((List.range k2).map (Zci Φ R))[j]'(by simp;omega):=by simp only[hsd]
    simpa using h3) (fun p hp=>List.mem_append_right _ hp) (by simp;omega)
   rw[show ((List.range (i0+1)).map (Zci Φ R)).length=i0+1 by simp] at euu;subst euu;have HAL:=Hd (Zzy q3 (by omega) (hLR cu));rw[show ((List.range (i0+1)).map (Zci Φ R)).length=i0+1 by simp] at hcu;have hcz:(i0:Int)+1<=(cu:Int):=by omega
   have hcz0:¬ cu=0:=by omega
   have HSC:=Hd q3;have HBL:Hid (Below wb.heap.size wb wC):=Hd q3.chg.below0;have HRL:=Hd (show rs.length=k2/\k2<=i0+1/\i0<=16/\hs.length<=5 by rcases hcase with ⟨_,h⟩|⟨_,h⟩<;>exact⟨hrl,by omega,hi16,hhl⟩);have HFSL:Hid ((fs++rs).length=2+hs.length+rs.length):=Hd (by rw[List.length_append,HFSE.out];simp[two];omega);have hk17:k2<=i0+1:=HRL.out.2.1;have hkz:(k2:Int)<=(i0:Int)+1:=by omega
   have hkc:(k2:Int)<=(cu:Int):=by omega
   clear q1 q2 q3 q4 hsd hLR hnod hw0 hbC hrl hkM hloB hhiB x0 x1 x2 x3 HRF;rcases hcase with ⟨rfl,rfl⟩|⟨rfl,hlt⟩
   ·
    have hcast:((i0+1:Nat):Int)=(i0:Int)+1:=by simp
    rw[hcast] at hmin hkz;go_wp2_with fail;refine HAL.out.mono ?_;rintro y wl ⟨rfl,hbl⟩
    have HLF:Hid (Calls Tryz.prog 29 #[.pointer (some ⟨mb,0,none⟩),.int .i64 ((hs.length:Nat)+(i0+1:Int))] wl fun x w'=>x=.returned (.bool true)/\wl=w'):=Hd (by
     have hq:=Zxs (HSC.out.below hbl) (hs.length+(i0+1)) (by have:=HRL.out;have:=HP16.out;omega);rw[Int.natCast_add] at hq;refine hq.mono fun e w' ⟨h1,h2⟩=>⟨?_,h2⟩
     rw[h1,decide_eq_true (by rw[HFSL.out,HRL.out.1];omega)])
    have HBL2:=Hd (HBL.out.trans (hbl.mono HBL.out.size));have HLV:=Hd (Zkm Zeu wl);clear hbl HAL;go_wp2_with fail;refine HLF.out.mono ?_;rintro y w' ⟨rfl,rfl⟩;go_wp2_with fail;refine HLV.out.mono ?_;rintro y wm ⟨rfl,hbm⟩;have HFN:=Hd (HBB.out.trans ((HBL2.out.trans (hbm.mono HBL2.out.size)).mono HBB.out.size));clear hbm HLV HLF;go_wp2_with fail;go_ret;exact⟨rfl,HFN.out⟩
   ·
    have hltz:(k2:Int)<(i0:Int)+1:=by omega
    have hnez:(k2:Int)≠(i0:Int)+1:=by omega
    go_wp2_with fail;refine HAL.out.mono ?_;rintro y wl ⟨rfl,hbl⟩
    have HLF:Hid (Calls Tryz.prog 29 #[.pointer (some ⟨mb,0,none⟩),.int .i64 ((hs.length:Nat)+(k2:Int))] wl fun x w'=>x=.returned (.bool true)/\wl=w'):=Hd (by
     have hq:=Zxs (HSC.out.below hbl) (hs.length+k2) (by have:=HRL.out;have:=HP16.out;omega);rw[Int.natCast_add] at hq;refine hq.mono fun e w' ⟨h1,h2⟩=>⟨?_,h2⟩
     rw[h1,decide_eq_true (by rw[HFSL.out,HRL.out.1];omega)])
    have HBL2:=Hd (HBL.out.trans (hbl.mono HBL.out.size));have HLV:=Hd (Zkm Zeu wl);clear hbl HAL;go_wp2_with fail;refine HLF.out.mono ?_;rintro y w' ⟨rfl,rfl⟩;go_wp2_with fail;refine HLV.out.mono ?_;rintro y wm ⟨rfl,hbm⟩;have HFN:=Hd (HBB.out.trans ((HBL2.out.trans (hbm.mono HBL2.out.size)).mono HBB.out.size));clear hbm HLV HLF;go_wp2_with fail;go_ret;exact⟨rfl,HFN.out⟩
end Go.Proofs.YtkbegdkpboklpaaGreat
