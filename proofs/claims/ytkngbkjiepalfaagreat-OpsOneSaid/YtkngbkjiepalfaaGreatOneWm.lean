/- The walk of a law: OneW. -/
import Derived.Test.YtkngbkjiepalfaaGreatO8
set_option linter.unusedSimpArgs false
set_option linter.unusedVariables false
set_option linter.unusedSectionVars false
set_option linter.unnecessarySimpa false
set_option maxRecDepth 100000
set_option maxHeartbeats 8000000
namespace Go.Proofs.YtkngbkjiepalfaaGreat
open Go.RowKit
theorem Zna {n:Nat} {F G:BF} {x y:Value} {w:World} {b:Bool} (h1:TabA n w x F) (h2:TabA n w y G) (d1:DepF n F) (d2:DepF n G) (hb:b=true↔F=G):Calls Tryz.prog 73 #[x,y] w fun e w'=>e=.returned (.bool b)/\Below w.heap.size w w':=by
 obtain⟨a,c,rfl,k1⟩:=h1;obtain⟨a2,c2,rfl,k2⟩:=h2;have:=Zm9 (tabB n F) (tabB n G) (by simp[Zbg]) a a2 c c2 w k1 k2;rw[Zbg] at this;refine this.mono ?_;rintro e w' ⟨rfl,hb'⟩;refine⟨?_,hb'⟩;rw[show decide (tabB n F=tabB n G)=b from ?_];rw[Bool.eq_iff_iff,decide_eq_true_iff,hb];exact⟨fun e=>Zw0 d1 d2 e,fun e=>by rw[e]⟩
theorem Zya (F G:BF):Zbf 0 [F,G]=notF (Zbf 1 [notF F,notF G]):=by
 funext ρ
 show iteB (iteB true (F ρ) false) (G ρ) false = !(iteB (iteB false true (!F ρ)) true (!G ρ))
 cases F ρ<;>cases G ρ<;>rfl
theorem Yav (F G:BF):Zbf 2 [F,G]=notF (iffF F G):=by
 funext ρ
 show iteB (iteB false (!F ρ) (F ρ)) (!G ρ) (G ρ) = !(iteB (F ρ) (G ρ) (!G ρ))
 cases F ρ<;>cases G ρ<;>rfl
theorem Yau (F G:BF):Zbf 0 [F,G]=andF F G:=by
 funext ρ
 show iteB (iteB true (F ρ) false) (G ρ) false=iteB (F ρ) (G ρ) false
 cases F ρ<;>cases G ρ<;>rfl
theorem one_walk (q:AskD) (ao ae ap:Option Addr) (co ce cp:Nat) (p0 p1:Nat) (hp0:p0<256) (hp1:p1<256) (w:World) (h:AskAt w q ao ae ap) :
 Calls Tryz.prog 14 #[askV q ao ae ap co ce cp,.agg #[.int .u8 p0,.int .u8 p1]] w fun y w'=>y=.returned (.bool true)/\Below w.heap.size w w':=by
 have HSM:Hid (∀ W,Below w.heap.size w W->∀ u,u=askV q ao ae ap co ce cp->Calls Tryz.prog 28 #[u] W fun y w'=>∃ b,y=.returned (.bool b)/\(b=true->Zg6 q)/\Below W.heap.size W w'):=Hd fun W hb u hu=>by subst hu;exact Zk0 q ao ae ap co ce cp W (h.below hb)
 have HST:Hid (∀ W n,Below w.heap.size w W->Zg6 q->q.vars=(n:Nat)->∀ u,u=askV q ao ae ap co ce cp->Calls Tryz.prog 29 #[u] W (SetP Zkg q n W)):=Hd fun W n hb hs hn u hu=>by subst hu;exact Zkx Zbi q ao ae ap co ce cp W (h.below hb) hs n hn
 obtain⟨vars,hvars⟩:∃ z,z=q.vars:=⟨_,rfl⟩;have HV:=Hd hvars;obtain⟨plen,hplen⟩:∃ z,z=q.plan.length:=⟨_,rfl⟩;unfold askV at HSM HST ⊢;rw[<- hvars,<- hplen] at HSM HST ⊢;obtain⟨olen,holen⟩:∃ z,z=q.order.length:=⟨_,rfl⟩;obtain⟨elen,helen⟩:∃ z,z=q.es.length:=⟨_,rfl⟩;rw[<- holen,<- helen] at HSM HST ⊢;obtain⟨w1,hw1⟩:∃ w1,w1=(w.alloc (.cells #[.int .i64 vars,.slice ao olen co,.slice ae elen ce,.slice ap plen cp] 39)).alloc (.cells #[.int .u8 p0,.int .u8 p1] 51):=⟨_,rfl⟩;have HW1:Hid (_=w1):=Hd hw1.symm;have HB1:Hid (Below w.heap.size w w1):=by rw[hw1];exact Hd ((Zad _ _).alloc (by simp) _)
 have hblk:w1.heap[w.heap.size]?=some (.cells #[.int .i64 vars,.slice ao olen co,.slice ae elen ce,.slice ap plen cp] 39 (0,0)):=by rw[hw1];exact(Go.heap_alloc_old _ _ (by simp)).trans (heap_alloc_new _ _)
 have hblb:w1.heap[w.heap.size+1]?=some (.cells #[.int .u8 p0,.int .u8 p1] 51 (0,0)):=by
  have:=heap_alloc_new (w.alloc (.cells #[.int .i64 vars,.slice ao olen co,.slice ae elen ce,.slice ap plen cp] 39)) (.cells #[.int .u8 p0,.int .u8 p1] 51);rw[World.size_alloc] at this;rw[hw1];exact this
 have x0:w1.cell? ⟨w.heap.size+1,0,none⟩=some (.int .u8 p0):=by rw[cell_of_row _ _ 0 _ _ _ hblb];rfl
 have x1:w1.cell? ⟨w.heap.size+1,1,none⟩=some (.int .u8 p1):=by rw[cell_of_row _ _ 1 _ _ _ hblb];rfl
 have d0:w1.cell? ⟨w.heap.size,0,none⟩=some (.int .i64 vars):=by rw[cell_of_row _ _ 0 _ _ _ hblk];rfl
 have d1:w1.cell? ⟨w.heap.size,1,none⟩=some (.slice ao olen co):=by rw[cell_of_row _ _ 1 _ _ _ hblk];rfl
 have d2:w1.cell? ⟨w.heap.size,2,none⟩=some (.slice ae elen ce):=by rw[cell_of_row _ _ 2 _ _ _ hblk];rfl
 have d3:w1.cell? ⟨w.heap.size,3,none⟩=some (.slice ap plen cp):=by rw[cell_of_row _ _ 3 _ _ _ hblk];rfl
 clear h hw1 hblk hvars hplen holen helen hblb
 go_enter Tryz.func14,Tryz.ntmps14
 go_upto_region 1 with fail;rw[HW1.out];go_wp2_with fail;refine(HSM.out _ HB1.out _ rfl).mono ?_;rintro y w2 ⟨b,rfl,hb,hbel⟩;have HB:=Hd hb;have HBEL:=Hd (HB1.out.trans (hbel.mono HB1.out.size));have e0:=(hbel.cell (p:=⟨w.heap.size,0,none⟩) (Zaa d0)).trans d0;have e1:=(hbel.cell (p:=⟨w.heap.size,1,none⟩) (Zaa d1)).trans d1;have e2:=(hbel.cell (p:=⟨w.heap.size,2,none⟩) (Zaa d2)).trans d2;have e3:=(hbel.cell (p:=⟨w.heap.size,3,none⟩) (Zaa d3)).trans d3;have y0:=(hbel.cell (p:=⟨w.heap.size+1,0,none⟩) (Zaa x0)).trans x0;have y1:=(hbel.cell (p:=⟨w.heap.size+1,1,none⟩) (Zaa x1)).trans x1;have HLV:=Hd (Zd5 w2);clear hb hbel HSM d0 d1 d2 d3 HW1 x0 x1;cases b with
 | false =>
   go_wp2_with fail;refine HLV.out.mono ?_;rintro y w3 ⟨rfl,hb3⟩;have HB3:=Hd (HBEL.out.trans (hb3.mono HBEL.out.size));clear hb3;go_wp2_with fail;go_ret;exact⟨rfl,HB3.out⟩
 | true =>
   have HSP:=Hd (HB.out (by first|rfl|trivial));obtain⟨n,hn⟩:∃ n:Nat,vars=(n:Nat):=⟨vars.toNat,by have:=HSP.out.lo;have:=HV.out;omega⟩;subst hn;have hn6:n<=6:=by have:=HSP.out.hi;have:=HV.out;omega
   have hn1:1<=n:=by have:=HSP.out.lo;have:=HV.out;omega
   have hes:q.es.length<=5:=HSP.out.es;have HSET:=Hd (HST.out w2 n HBEL.out HSP.out rfl _ rfl);clear HST HLV HB;go_wp2_with fail;refine HSET.out.mono ?_;rintro y w3 ⟨mb,vl,vx,wb,hs,nx,rfl,hbw,hsnd,hnx,o3,m3,V3,lt3,-⟩;have hhl:hs.length<=5:=by have:=congrArg List.length hsnd;simp at this;omega
   obtain⟨al,cl,hvl⟩:∃ a c,vl=.slice a hs.length c:=by
    obtain⟨a,c,e,_⟩:=lt3.l.own.slice;exact⟨a,c,by rw[e];simp[Zbb]⟩
   subst hvl;have HSUB:Hid (∀ p∈hs,p∈two++hs):=Hd fun p hp=>List.mem_append_right _ hp
   have hfl:(two++hs).length=2+hs.length:=by simp[two];omega
   have HROOM:Hid (∀ k,k<=192->k*2^n<=Zck n):=Hd fun k hk=>Zeu hk
   have HCB:Hid (wb.cell? ⟨w.heap.size,0,none⟩=some (.int .i64 (n:Nat))):=Hd ((hbw.cell (p:=⟨w.heap.size,0,none⟩) (Zaa e0)).trans e0);have c0:=(lt3.below0.cell (p:=⟨w.heap.size,0,none⟩) (Zaa ((hbw.cell (p:=⟨w.heap.size,0,none⟩) (Zaa e0)).trans e0))).trans ((hbw.cell (p:=⟨w.heap.size,0,none⟩) (Zaa e0)).trans e0);have z0:=(lt3.below0.cell (p:=⟨w.heap.size+1,0,none⟩) (Zaa ((hbw.cell (p:=⟨w.heap.size+1,0,none⟩) (Zaa y0)).trans y0))).trans ((hbw.cell (p:=⟨w.heap.size+1,0,none⟩) (Zaa y0)).trans y0);have z1:=(lt3.below0.cell (p:=⟨w.heap.size+1,1,none⟩) (Zaa ((hbw.cell (p:=⟨w.heap.size+1,1,none⟩) (Zaa y1)).trans y1))).trans ((hbw.cell (p:=⟨w.heap.size+1,1,none⟩) (Zaa y1)).trans y1);have HBB:Hid (Below w.heap.size w wb):=Hd (HBEL.out.trans (hbw.mono HBEL.out.size));have HRG:Hid (∀ p∈two++hs,p.1<nx):=Hd fun p hp=>(lt3.sat.range p hp).2
   have HL:=Hd ((lt3.withOd (Od':=fun _=>True) trivial).withSt (Wt':=SufW q.plan) (by rw[lt3.st.1];exact List.suffix_refl _));clear lt3 hbw hsnd HSET e0 e1 e2 e3 y0 y1;have HP1:=Hd (Zjt HL.out HSUB.out (by omega) (by omega) p0 hp0);go_wp2_with fail;refine HP1.out.mono ?_;rintro y wA ⟨a1,F1,r1,rfl,hm1,hf1,hbA⟩;have HLA:=Hd (HL.out.below hbA);have HF1:=Hd hf1;have HM1:=Hd hm1;have cA:=(hbA.cell (p:=⟨w.heap.size,0,none⟩) (Zaa c0)).trans c0;have zA:=(hbA.cell (p:=⟨w.heap.size+1,1,none⟩) (Zaa z1)).trans z1;have HP2:=Hd (Zjt HLA.out HSUB.out (by omega) (by omega) p1 hp1);clear hf1 hbA HP1 HL c0 z0 z1 hm1;go_wp2_with fail;refine HP2.out.mono ?_;rintro y wB ⟨a2,F2,r2,rfl,hm2,hf2,hbB⟩;have HLB:=Hd (HLA.out.below hbB);have HM2:=Hd hm2
   have H0:Hid (StF Zkg n (Zck n) wb mb (two++hs) nx q.plan [(r1,F1),(r2,F2)] wB):=Hd (StF.of HLB.out.st HLB.out.sat (by
    intro p hp;simp only[List.mem_cons,List.not_mem_nil,or_false] at hp;rcases hp with rfl|rfl
    ·
     exact HF1.out.chg (Zbm hbB o3)
    ·
     exact hf2))
   have HD1:Hid (DepF n F1):=Hd (H0.out.dep HM1.out);have HD2:Hid (DepF n F2):=Hd (H0.out.dep HM2.out);have HK2:Hid (∀ (fs:List (Int×BF)) (a b:Int) (A B:BF),(a,A)∈fs->(b,B)∈fs->∀ i (h:i<[a,b].length),([a,b][i],[A,B][i]'(by simpa using h))∈fs):=Hd fun fs a b A B h1 h2 i hi=>by
    rcases(show i=0\/i=1 by simp at hi;omega) with rfl|rfl
    ·
     exact h1
    ·
     exact h2
   have HRM:Hid (∀ l,l<=180->l*2^n+2*(2^n-1)<=Zck n):=Hd fun l hl=>Zie (r:=2) (by omega) (by omega)
   have HRM1:Hid (∀ l,l<=180->l*2^n+(2^n-1)<=Zck n):=Hd fun l hl=>Zie (r:=1) (by omega) (by omega)
   obtain⟨fs,hfs⟩:∃ fs,fs=two++hs:=⟨_,rfl⟩;have HFL:Hid (fs.length<=7):=Hd (by rw[hfs,hfl];omega);have HTW:Hid ((0,fun _=>false)∈fs):=Hd (by rw[hfs];simp[two]);rw[<- hfs] at H0 HM1 HM2;have HLN:Hid (fs=two++hs):=Hd hfs;clear hf2 hbB HP2 HLA HF1 cA zA hm2 HLB hfs hfl;have HC:Hid (Calls Tryz.prog 45 #[.pointer (some ⟨mb,0,none⟩),.slice (some ⟨wB.heap.size,0,none⟩) 2 2] (wB.alloc (.cells #[.int .i64 a1,.int .i64 a2] 3)) _):=Hd (H0.out.join14 Zbi (j:=0) (by omega) (ks:=[a1,a2]) (Fs:=[F1,F2]) (by simp) rfl (HK2.out _ _ _ _ _ HM1.out HM2.out) (by omega) (HRM.out _ (by have:=HFL.out;omega)) rfl rfl);clear H0;go_wp2_with fail;refine HC.out.mono ?_;rintro y wC ⟨rfl,hst⟩;have H1:=Hd hst;clear hst HC;have HC:=Hd (H1.out.go fun o m V hw hs=>Zl3 Zbi (hs.goes0 hw) (by omega) (k:=a1) (F:=F1) (by simp[HM1.out]));clear H1;go_wp2_with fail;refine HC.out.mono ?_;rintro y wD ⟨rfl,hst⟩;have H2:=Hd hst;clear hst HC;have HC:=Hd (H2.out.go fun o m V hw hs=>Zl3 Zbi (hs.goes0 hw) (by omega) (k:=a2) (F:=F2) (by simp[HM2.out]));clear H2;go_wp2_with fail;refine HC.out.mono ?_;rintro y wE ⟨rfl,hst⟩;have H3:=Hd hst;clear hst HC;have HC:Hid (Calls Tryz.prog 69 #[.pointer (some ⟨mb,0,none⟩),.slice (some ⟨wE.heap.size,0,none⟩) 2 2] (wE.alloc (.cells #[.int .i64 (nx+1),.int .i64 (nx+1+1)] 3)) _):=Hd (H3.out.join14 Zbi (j:=1) (by omega) (ks:=[nx+1,nx+1+1]) (Fs:=[notF F1,notF F2]) (by simp) rfl (HK2.out _ _ _ _ _ (by simp) (by simp)) (by omega) (HRM.out _ (by have:=HFL.out;simp;omega)) rfl rfl);clear H3;go_wp2_with fail;refine HC.out.mono ?_;rintro y wF ⟨rfl,hst⟩;have H4:=Hd hst;clear hst HC;have HC:=Hd (H4.out.go fun o m V hw hs=>Zl3 Zbi (hs.goes0 hw) (by omega) (k:=nx+1+1+1) (F:=Zbf 1 [notF F1,notF F2]) (by simp));clear H4;go_wp2_with fail;refine HC.out.mono ?_;rintro y wG ⟨rfl,hst⟩;have H5:=Hd hst;clear hst HC;have HC:Hid (Calls Tryz.prog 70 #[.pointer (some ⟨mb,0,none⟩),.slice (some ⟨wG.heap.size,0,none⟩) 2 2] (wG.alloc (.cells #[.int .i64 a1,.int .i64 a2] 3)) _):=Hd (H5.out.join14 Zbi (j:=2) (by omega) (ks:=[a1,a2]) (Fs:=[F1,F2]) (by simp) rfl (HK2.out _ _ _ _ _ (by simp[HM1.out]) (by simp[HM2.out])) (by omega) (HRM.out _ (by have:=HFL.out;simp;omega)) rfl rfl);clear H5;go_wp2_with fail;refine HC.out.mono ?_;rintro y wH ⟨rfl,hst⟩;have H6:=Hd hst;clear hst HC;have HC:=Hd (H6.out.go fun o m V hw hs=>Zv6 Zbi hs (F1:=F1) (F2:=F2) (ka:=a1) (kb:=a2) (by simp[HM1.out]) (by simp[HM2.out]) hw (by omega) (HRM1.out _ (by have:=HFL.out;simp;omega)));clear H6;go_wp2_with fail;refine HC.out.mono ?_;rintro y wI ⟨rfl,hst⟩;have H7:=Hd hst;clear hst HC;have HC:=Hd (H7.out.go fun o m V hw hs=>Zl3 Zbi (hs.goes0 hw) (by omega) (k:=nx+1+1+1+1+1+1) (F:=iffF F1 F2) (by simp));clear H7;go_wp2_with fail;refine HC.out.mono ?_;rintro y wJ ⟨rfl,hst⟩;have H8:=Hd hst;clear hst HC;obtain⟨br,hbr⟩:∃ b:Bool,b=true↔F1=F2:=Zjm _;obtain⟨bn,hbn⟩:∃ b:Bool,b=true↔andF F1 F2=Zbw 1:=Zjm _;have HBR:=Hd hbr;have HBN:=Hd hbn;have HS1:=Hd (Znj H8.out (k:=nx) (l:=nx+1+1+1+1) (F:=Zbf 0 [F1,F2]) (G:=notF (Zbf 1 [notF F1,notF F2])) (b:=true) (by simp) (by simp) (by simp[<- Zya]));have HS2:=Hd (Znj H8.out (k:=nx+1+1+1+1+1) (l:=nx+1+1+1+1+1+1+1) (F:=Zbf 2 [F1,F2]) (G:=notF (iffF F1 F2)) (b:=true) (by simp) (by simp) (by simp[<- Yav]));have HS3:=Hd (Znj H8.out (k:=a1) (l:=a2) (F:=F1) (G:=F2) (b:=br) (by simp[HM1.out]) (by simp[HM2.out]) hbr);have HS4:=Hd (Znj H8.out (k:=nx) (l:=0) (F:=Zbf 0 [F1,F2]) (G:=fun _=>false) (b:=bn) (by simp) (by simp[HTW.out]) (by rw[hbn,Yau];rfl));clear hbr hbn;go_wp2_with fail;refine HS1.out.mono ?_;rintro y w' ⟨rfl,rfl⟩;go_wp2_with fail;refine HS2.out.mono ?_;rintro y w' ⟨rfl,rfl⟩;go_wp2_with fail;refine HS3.out.mono ?_;rintro y w' ⟨rfl,rfl⟩;go_wp2_with fail;refine HS4.out.mono ?_;rintro y w' ⟨rfl,rfl⟩;have HC:=Hd (H8.out.go fun o m V hw hs=>Zo0 Zbi hs (F1:=F1) (F2:=F2) (ka:=a1) (kb:=a2) (by simp[HM1.out]) (by simp[HM2.out]) HBN.out hw (by omega) (HRM1.out _ (by have:=HFL.out;simp;omega)));clear H8 HS1 HS2 HS3 HS4;go_wp2_with fail;refine HC.out.mono ?_;rintro y wK ⟨rfl,hst⟩;have H9:=Hd hst;clear hst HC;have HSM:=Hd (Zna (n:=n) (H9.out.tab (r:=r1) (F:=F1) (by simp)) (H9.out.tab (r:=r2) (F:=F2) (by simp)) HD1.out HD2.out HBR.out);go_wp2_with fail;refine HSM.out.mono ?_;rintro y wL ⟨rfl,hbL⟩;have HBX:=Hd (H9.out.below hbL).below0;have HLV:=Hd (Zd5 wL);clear hbL HSM H9;have hnb:(bn == !bn)=false:=by cases bn<;>rfl
   have hnb2:(bn != !bn)=true:=by cases bn<;>rfl
   go_wp2_with fail;refine HLV.out.mono ?_;rintro y w11 ⟨rfl,hb11⟩;have HFN:=Hd (HBB.out.trans ((HBX.out.trans (hb11.mono HBX.out.size)).mono HBB.out.size));clear hb11 HLV;go_wp2_with fail;go_ret;exact⟨rfl,HFN.out⟩
end Go.Proofs.YtkngbkjiepalfaaGreat
