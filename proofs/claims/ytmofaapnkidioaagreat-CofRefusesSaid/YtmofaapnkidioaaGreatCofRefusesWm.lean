/- The walk of a law: CofRefusesW. -/
import Derived.Test.YtmofaapnkidioaaGreatR8
set_option linter.unusedSimpArgs false
set_option linter.unusedVariables false
set_option linter.unusedSectionVars false
set_option linter.unnecessarySimpa false
set_option maxRecDepth 100000
set_option maxHeartbeats 8000000
namespace Go.Proofs.YtmofaapnkidioaaGreat
open Go.RowKit
theorem cofrefuses_walk (q:AskD) (ao ae ap:Option Addr) (co ce cp:Nat) (kf kg:Int) (w:World) (h:AskAt w q ao ae ap) :
 Calls Tryz.prog 13 #[askV q ao ae ap co ce cp,.int .i64 kf,.int .i64 kg] w fun y w'=>y=.returned (.bool true)/\Below w.heap.size w w':=by
 have HSM:Hid (∀ W,Below w.heap.size w W->∀ u,u=askV q ao ae ap co ce cp->Calls Tryz.prog 15 #[u] W fun y w'=>∃ b,y=.returned (.bool b)/\(b=true->Zfd q)/\Below W.heap.size W w'):=Hd fun W hb u hu=>by subst hu;exact Zg6 q ao ae ap co ce cp W (h.below hb)
 have HST:Hid (∀ W n,Below w.heap.size w W->Zfd q->q.vars=(n:Nat)->∀ u,u=askV q ao ae ap co ce cp->Calls Tryz.prog 17 #[u] W (SetP Za2 q n W)):=Hd fun W n hb hs hn u hu=>by subst hu;exact Zg5 Zbk q ao ae ap co ce cp W (h.below hb) hs n hn
 obtain⟨vars,hvars⟩:∃ z,z=q.vars:=⟨_,rfl⟩;have HV:=Hd hvars;obtain⟨plen,hplen⟩:∃ z,z=q.plan.length:=⟨_,rfl⟩;unfold askV at HSM HST ⊢;rw[<- hvars,<- hplen] at HSM HST ⊢;obtain⟨olen,holen⟩:∃ z,z=q.order.length:=⟨_,rfl⟩;obtain⟨elen,helen⟩:∃ z,z=q.es.length:=⟨_,rfl⟩;rw[<- holen,<- helen] at HSM HST ⊢;obtain⟨w1,hw1⟩:∃ w1,w1=w.alloc (.cells #[.int .i64 vars,.slice ao olen co,.slice ae elen ce,.slice ap plen cp] 26):=⟨_,rfl⟩;have HW1:Hid (_=w1):=Hd hw1.symm;have HB1:Hid (Below w.heap.size w w1):=by rw[hw1];exact Hd (Zad _ _)
 have hblk:w1.heap[w.heap.size]?=some (.cells #[.int .i64 vars,.slice ao olen co,.slice ae elen ce,.slice ap plen cp] 26 (0,0)):=by rw[hw1];exact heap_alloc_new _ _
 have d0:w1.cell? ⟨w.heap.size,0,none⟩=some (.int .i64 vars):=by rw[cell_of_row _ _ 0 _ _ _ hblk];rfl
 have d1:w1.cell? ⟨w.heap.size,1,none⟩=some (.slice ao olen co):=by rw[cell_of_row _ _ 1 _ _ _ hblk];rfl
 have d2:w1.cell? ⟨w.heap.size,2,none⟩=some (.slice ae elen ce):=by rw[cell_of_row _ _ 2 _ _ _ hblk];rfl
 have d3:w1.cell? ⟨w.heap.size,3,none⟩=some (.slice ap plen cp):=by rw[cell_of_row _ _ 3 _ _ _ hblk];rfl
 clear h hw1 hblk hvars hplen holen helen
 go_enter Tryz.func13,Tryz.ntmps13
 go_upto_region 1 with fail;rw[HW1.out];go_wp2_with fail;refine(HSM.out _ HB1.out _ rfl).mono ?_;rintro y w2 ⟨b,rfl,hb,hbel⟩;have HB:=Hd hb;have HBEL:=Hd (HB1.out.trans (hbel.mono HB1.out.size));have e0:=(hbel.cell (p:=⟨w.heap.size,0,none⟩) (Zaa d0)).trans d0;have e1:=(hbel.cell (p:=⟨w.heap.size,1,none⟩) (Zaa d1)).trans d1;have e2:=(hbel.cell (p:=⟨w.heap.size,2,none⟩) (Zaa d2)).trans d2;have e3:=(hbel.cell (p:=⟨w.heap.size,3,none⟩) (Zaa d3)).trans d3;have HLV:=Hd (Zbm w2);clear hb hbel HSM d0 d1 d2 d3 HW1;cases b with
 | false =>
   go_wp2_with fail;refine HLV.out.mono ?_;rintro y w3 ⟨rfl,hb3⟩;have HB3:=Hd (HBEL.out.trans (hb3.mono HBEL.out.size));clear hb3;go_wp2_with fail;go_ret;exact⟨rfl,HB3.out⟩
 | true =>
   have HSP:=Hd (HB.out (by first|rfl|trivial));obtain⟨n,hn⟩:∃ n:Nat,vars=(n:Nat):=⟨vars.toNat,by have:=HSP.out.lo;have:=HV.out;omega⟩;subst hn;have hn6:n<=6:=by have:=HSP.out.hi;have:=HV.out;omega
   have hn1:1<=n:=by have:=HSP.out.lo;have:=HV.out;omega
   have hes:q.es.length<=5:=HSP.out.es;have HSET:=Hd (HST.out w2 n HBEL.out HSP.out rfl _ rfl);clear HST HLV HB;go_wp2_with fail;refine HSET.out.mono ?_;rintro y w3 ⟨mb,vl,vx,wb,hs,nx,rfl,hbw,hsnd,hnx,o3,m3,V3,lt3,-⟩;have hhl:hs.length<=5:=by have:=congrArg List.length hsnd;simp at this;omega
   obtain⟨al,cl,hvl⟩:∃ a c,vl=.slice a hs.length c:=by
    obtain⟨a,c,e,_⟩:=lt3.l.own.slice;exact⟨a,c,by rw[e];simp[Zbe]⟩
   subst hvl;have HSUB:Hid (∀ p∈hs,p∈two++hs):=Hd fun p hp=>List.mem_append_right _ hp
   have hfl:(two++hs).length=2+hs.length:=by simp[two];omega
   have HROOM:Hid (∀ k,k<=192->k*2^n<=Zbn n):=Hd fun k hk=>Zdp hk
   have HCB:Hid (wb.cell? ⟨w.heap.size,0,none⟩=some (.int .i64 (n:Nat))):=Hd ((hbw.cell (p:=⟨w.heap.size,0,none⟩) (Zaa e0)).trans e0);have c0:=(lt3.below0.cell (p:=⟨w.heap.size,0,none⟩) (Zaa ((hbw.cell (p:=⟨w.heap.size,0,none⟩) (Zaa e0)).trans e0))).trans ((hbw.cell (p:=⟨w.heap.size,0,none⟩) (Zaa e0)).trans e0);have HBB:Hid (Below w.heap.size w wb):=Hd (HBEL.out.trans (hbw.mono HBEL.out.size));have HRG:Hid (∀ p∈two++hs,p.1<nx):=Hd fun p hp=>(lt3.sat.range p hp).2
   have HL:=Hd ((lt3.withOd (Od':=fun _=>True) trivial).withSt (Wt':=SufW q.plan) (by rw[lt3.st.1];exact List.suffix_refl _));clear lt3 hbw hsnd HSET e0 e1 e2 e3;have H0:Hid (StF Za2 n (Zbn n) wb mb (two++hs) nx q.plan [] w3):=Hd (StF.of HL.out.st HL.out.sat (by simp));have HFL:Hid ((two++hs).length=2+hs.length):=Hd hfl;have HN1:=Hd (Zky w3 kf _ rfl);clear HL c0;go_wp2_with fail;refine HN1.out.mono ?_;rintro y wA ⟨rfl,hbA⟩;have H1:=Hd (H0.out.below hbA);have HN2:=Hd (Zl4 wA kf kg);clear hbA H0 HN1;go_wp2_with fail;refine HN2.out.mono ?_;rintro y wB ⟨rfl,hbB⟩;have H2:=Hd (H1.out.below hbB);clear hbB H1 HN2;have HIF:Hid (∀ W b k,StF Za2 n (Zbn n) wb mb (two++hs) nx q.plan [] W->(b=true↔known (two++hs) k)->Calls Tryz.prog 36 #[.pointer (some ⟨mb,0,none⟩),.int .i64 k] W fun x w'=>x=.returned (.bool b)/\W=w'):=Hd fun W b k g hb=>g.ask fun o m V hs=>Zlc hs k hb
   obtain⟨bf,hbf⟩:∃ b:Bool,b=true↔known (two++hs) kf:=Zr4 _;obtain⟨bg,hbg⟩:∃ b:Bool,b=true↔known (two++hs) kg:=Zr4 _;have HBF:=Hd hbf;have HBG:=Hd hbg;have HF2:=Hd (HIF.out wB bf kf H2.out hbf);have HG2:=Hd (HIF.out wB bg kg H2.out hbg);clear hbf hbg;cases bf with
   | true =>
     cases bg with
     | true =>
       have HBL:=Hd H2.out.below0;clear H2 HIF;go_wp2_with fail;refine HF2.out.mono ?_;rintro y w' ⟨rfl,rfl⟩;go_wp2_with fail;refine HG2.out.mono ?_;rintro y w' ⟨rfl,rfl⟩;have HLV:=Hd (Zbm wB);go_wp2_with fail;refine HLV.out.mono ?_;rintro y w11 ⟨rfl,hb11⟩;have HFN:=Hd (HBB.out.trans ((HBL.out.trans (hb11.mono HBL.out.size)).mono HBB.out.size));clear hb11 HLV;go_wp2_with fail;go_ret;exact⟨rfl,HFN.out⟩
     | false =>
       have HNO:Hid (¬ known (two++hs) kf\/¬ known (two++hs) kg):=Hd (.inr fun h=>by have:=HBG.out.2 h;cases this);go_wp2_with fail;refine HF2.out.mono ?_;rintro y w' ⟨rfl,rfl⟩;go_wp2_with fail;refine HG2.out.mono ?_;rintro y w' ⟨rfl,rfl⟩;have HC1:=Hd (H2.out.ask fun o m V hs=>Ze1 hs (kf:=kf) (kc:=kg) (.inl ⟨rfl,HNO.out⟩));clear HF2 HG2;go_wp2_with fail;refine HC1.out.mono ?_;rintro y wC ⟨rfl,hbC⟩;have H3:=Hd (H2.out.below hbC);have HC2:=Hd (H3.out.ask fun o m V hs=>Zee hs (kf:=kf) (kc:=kg) (.inl ⟨rfl,HNO.out⟩));clear hbC H2 HC1;go_wp2_with fail;refine HC2.out.mono ?_;rintro y wD ⟨rfl,hbD⟩;have H4:=Hd (H3.out.below hbD);have HC3:=Hd (H4.out.ask fun o m V hs=>Zhu hs (kf:=kf) (kc:=kg) HNO.out);clear hbD H3 HC2;go_wp2_with fail;refine HC3.out.mono ?_;rintro y wE ⟨rfl,hbE⟩;have H5:=Hd (H4.out.below hbE);obtain⟨wF,hwF⟩:∃ W,W=wE.alloc (.cells #[.int .i64 (-1),.bool false] 41):=⟨_,rfl⟩;have HWF:Hid (_=wF):=Hd hwF.symm;have hbF:Below wE.heap.size wE wF:=by rw[hwF];exact Zad _ _
       have hblk:wF.heap[wE.heap.size]?=some (.cells #[.int .i64 (-1),.bool false] 41 (0,0)):=by rw[hwF];exact heap_alloc_new _ _
       have H6:=Hd (H5.out.below hbF)
       have HC4:Hid (Calls Tryz.prog 19 #[.pointer (some ⟨mb,0,none⟩),.int .i64 kf,.slice (some ⟨wE.heap.size,0,none⟩) 1 1] wF fun x w'=>x=.returned (.tuple #[.int .i64 0,.int .i64 9])/\Below wF.heap.size wF w'):=Hd (by
        obtain⟨o,m,V,q1,q2,_⟩:=H5.out;obtain⟨F,hF⟩:=HBF.out.1 (by first|rfl|trivial);have hl9:Zet n [((-1:Int),false)]=9:=Zjc (p:=(-1,false)) (by simp) (by dsimp only;omega);refine(Ze0 (ls:=[((-1:Int),false)]) (q2.below hbF) (by omega) hF (c:=1) ⟨by simp,fun k hk=>?_⟩ (fun _ x hx=>by cases hx;exact q2.lt.none (Nat.le_refl _)) q1 (by omega) (fun e=>by rw[hl9] at e;exact absurd e (by decide))).mono fun x w' hx=>?_
        ·
         obtain rfl:k=0:=by simpa using hk
         exact⟨wE.heap.size,0,rfl,by rw[cell_of_row _ _ 0 _ _ _ hblk];rfl,by rw[cell_of_row _ _ 1 _ _ _ hblk];rfl⟩
        ·
         have:=hx.2 (by rw[hl9];decide);rw[hl9] at this;exact this)
       have hwF2:wE.heap.size=wE.heap.size:=rfl;clear hbE H4 HC3 hwF hbF hblk H5 hwF2;go_upto_region 17 with fail;go_wp2_with fail;rw[HWF.out];refine HC4.out.mono ?_;rintro y wG ⟨rfl,hbG⟩;have HSS:=Hd (H6.out.below hbG);have HIS:=Hd (HIF.out wG true kf HSS.out (by have:=HBF.out;simpa using this));have HLF:Hid (Calls Tryz.prog 30 #[.pointer (some ⟨mb,0,none⟩),.int .i64 (hs.length:Nat)] wG fun x w'=>x=.returned (.bool true)/\wG=w'):=Hd (HSS.out.left hs.length (by omega) (by have:=HFL.out;omega));have HBL:=Hd HSS.out.below0;clear hbG HC4 H6 HSS HIF;go_wp2_with fail;refine HIS.out.mono ?_;rintro y w' ⟨rfl,rfl⟩;go_wp2_with fail;refine HLF.out.mono ?_;rintro y w' ⟨rfl,rfl⟩;have HLV:=Hd (Zbm wG);go_wp2_with fail;refine HLV.out.mono ?_;rintro y w11 ⟨rfl,hb11⟩;have HFN:=Hd (HBB.out.trans ((HBL.out.trans (hb11.mono HBL.out.size)).mono HBB.out.size));clear hb11 HLV;go_wp2_with fail;go_ret;exact⟨rfl,HFN.out⟩
   | false =>
     have HNO:Hid (¬ known (two++hs) kf\/¬ known (two++hs) kg):=Hd (.inl fun h=>by have:=HBF.out.2 h;cases this);go_wp2_with fail;refine HF2.out.mono ?_;rintro y w' ⟨rfl,rfl⟩;have HC1:=Hd (H2.out.ask fun o m V hs=>Ze1 hs (kf:=kf) (kc:=kg) (.inl ⟨rfl,HNO.out⟩));clear HF2 HG2;go_wp2_with fail;refine HC1.out.mono ?_;rintro y wC ⟨rfl,hbC⟩;have H3:=Hd (H2.out.below hbC);have HC2:=Hd (H3.out.ask fun o m V hs=>Zee hs (kf:=kf) (kc:=kg) (.inl ⟨rfl,HNO.out⟩));clear hbC H2 HC1;go_wp2_with fail;refine HC2.out.mono ?_;rintro y wD ⟨rfl,hbD⟩;have H4:=Hd (H3.out.below hbD);have HC3:=Hd (H4.out.ask fun o m V hs=>Zhu hs (kf:=kf) (kc:=kg) HNO.out);clear hbD H3 HC2;go_wp2_with fail;refine HC3.out.mono ?_;rintro y wE ⟨rfl,hbE⟩;have H5:=Hd (H4.out.below hbE);obtain⟨wF,hwF⟩:∃ W,W=wE.alloc (.cells #[.int .i64 (-1),.bool false] 41):=⟨_,rfl⟩;have HWF:Hid (_=wF):=Hd hwF.symm;have hbF:Below wE.heap.size wE wF:=by rw[hwF];exact Zad _ _
     have hblk:wF.heap[wE.heap.size]?=some (.cells #[.int .i64 (-1),.bool false] 41 (0,0)):=by rw[hwF];exact heap_alloc_new _ _
     have H6:=Hd (H5.out.below hbF);have HC4:Hid (Calls Tryz.prog 19 #[.pointer (some ⟨mb,0,none⟩),.int .i64 kf,.slice (some ⟨wE.heap.size,0,none⟩) 1 1] wF fun x w'=>x=.returned (.tuple #[.int .i64 0,.int .i64 8])/\Below wF.heap.size wF w'):=Hd (H6.out.ask fun o m V hs=>Zkx hs (kf:=kf) (fun h=>by have:=HBF.out.2 h;cases this) _ _ _);have hwF2:wE.heap.size=wE.heap.size:=rfl;clear hbE H4 HC3 hwF hbF hblk H5 hwF2;go_upto_region 17 with fail;go_wp2_with fail;rw[HWF.out];refine HC4.out.mono ?_;rintro y wG ⟨rfl,hbG⟩;have HSS:=Hd (H6.out.below hbG);have HIS:=Hd (HIF.out wG false kf HSS.out (by have:=HBF.out;simpa using this));have HLF:Hid (Calls Tryz.prog 30 #[.pointer (some ⟨mb,0,none⟩),.int .i64 (hs.length:Nat)] wG fun x w'=>x=.returned (.bool true)/\wG=w'):=Hd (HSS.out.left hs.length (by omega) (by have:=HFL.out;omega));have HBL:=Hd HSS.out.below0;clear hbG HC4 H6 HSS HIF;go_wp2_with fail;refine HIS.out.mono ?_;rintro y w' ⟨rfl,rfl⟩;go_wp2_with fail;refine HIS.out.mono ?_;rintro y w' ⟨rfl,rfl⟩;go_wp2_with fail;refine HLF.out.mono ?_;rintro y w' ⟨rfl,rfl⟩;have HLV:=Hd (Zbm wG);go_wp2_with fail;refine HLV.out.mono ?_;rintro y w11 ⟨rfl,hb11⟩;have HFN:=Hd (HBB.out.trans ((HBL.out.trans (hb11.mono HBL.out.size)).mono HBB.out.size));clear hb11 HLV;go_wp2_with fail;go_ret;exact⟨rfl,HFN.out⟩
end Go.Proofs.YtmofaapnkidioaaGreat
