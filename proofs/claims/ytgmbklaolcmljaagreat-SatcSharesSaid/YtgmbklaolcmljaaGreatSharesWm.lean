/- The walk of a law: SharesW. -/
import Derived.Test.YtgmbklaolcmljaaGreatPs
set_option linter.unusedSimpArgs false
set_option linter.unusedVariables false
set_option linter.unusedSectionVars false
set_option linter.unnecessarySimpa false
set_option maxRecDepth 100000
set_option maxHeartbeats 8000000
namespace Go.Proofs.YtgmbklaolcmljaaGreat
open Go.Proofs.Tryz
open Go.RowKit
theorem Yca:∀ k c:Nat,(shr k c).1<=c
 | 0,c=>Nat.le_refl _
 | k+1,c=>by
   unfold shr;split
   . exact Nat.le_refl _
   . exact Nat.le_trans (Yca k _) (Nat.div_le_self _ _)
theorem Zzf (n:Nat)(F:BF):(tabB n F).count true=totN n (fun _=>none) F:=Zg2 n F
theorem shares_walk (q:AskD)(ao ae ap:Option Addr)(co ce cp:Nat)(kf:Int)(w:World)(h:AskAt w q ao ae ap) :
 Calls prog 4 #[askV q ao ae ap co ce cp,.int .i64 kf] w fun y w'=>y=.returned (.bool true)/\Below w.heap.size w w':=by
 have g7:Hid (∀ W,Below w.heap.size w W->∀ u,u=askV q ao ae ap co ce cp->Calls prog 12 #[u] W fun y w'=>∃ b,y=.returned (.bool b)/\(b=true->Zmg q)/\Below W.heap.size W w'):=Hd fun W hb u hu=>by subst hu;exact Zyy q ao ae ap co ce cp W (h.below hb)
 have g5:Hid (∀ W n,Below w.heap.size w W->Zmg q->q.vars=(n:Nat)->∀ u,u=askV q ao ae ap co ce cp->Calls prog 22 #[u] W (SetP Zk2 q n W)):=Hd fun W n hb hs hn u hu=>by subst hu;exact Zyw Zid q ao ae ap co ce cp W (h.below hb) hs n hn
 obtain⟨vars,g3⟩:∃ z,z=q.vars:=⟨_,rfl⟩;have HV:=Hd g3;obtain⟨plen,gb⟩:∃ z,z=q.plan.length:=⟨_,rfl⟩;unfold askV at g7 g5 ⊢;rw[<- g3,<- gb] at g7 g5 ⊢;obtain⟨olen,gc⟩:∃ z,z=q.order.length:=⟨_,rfl⟩;obtain⟨elen,gd⟩:∃ z,z=q.es.length:=⟨_,rfl⟩;rw[<- gc,<- gd] at g7 g5 ⊢;obtain⟨w1,ga⟩:∃ w1,w1=w.alloc (.cells #[.int .i64 vars,.slice ao olen co,.slice ae elen ce,.slice ap plen cp] 26):=⟨_,rfl⟩;have HW1:Hid (_=w1):=Hd ga.symm;have gk:Hid (Below w.heap.size w w1):=by rw[ga];exact Hd (Zaf _ _)
 have g1:w1.heap[w.heap.size]?=some (.cells #[.int .i64 vars,.slice ao olen co,.slice ae elen ce,.slice ap plen cp] 26 (0,0)):=by rw[ga];exact heap_alloc_new _ _
 have d0:w1.cell? ⟨w.heap.size,0,none⟩=some (.int .i64 vars):=by rw[cell_of_row _ _ 0 _ _ _ g1];rfl
 have d1:w1.cell? ⟨w.heap.size,1,none⟩=some (.slice ao olen co):=by rw[cell_of_row _ _ 1 _ _ _ g1];rfl
 have d2:w1.cell? ⟨w.heap.size,2,none⟩=some (.slice ae elen ce):=by rw[cell_of_row _ _ 2 _ _ _ g1];rfl
 have d3:w1.cell? ⟨w.heap.size,3,none⟩=some (.slice ap plen cp):=by rw[cell_of_row _ _ 3 _ _ _ g1];rfl
 clear h ga g1 g3 gb gc gd
 go_enter func4,ntmps4
 go_upto_region 1 with fail;rw[HW1.out];go_wp2_with fail;refine(g7.out _ gk.out _ rfl).mono ?_;rintro y w2 ⟨b,rfl,hb,g0⟩;have HB:=Hd hb;have g2:=Hd (gk.out.trans (g0.mono gk.out.size));have e0:=(g0.cell (p:=⟨w.heap.size,0,none⟩) (Zab d0)).trans d0;have e1:=(g0.cell (p:=⟨w.heap.size,1,none⟩) (Zab d1)).trans d1;have e2:=(g0.cell (p:=⟨w.heap.size,2,none⟩) (Zab d2)).trans d2;have e3:=(g0.cell (p:=⟨w.heap.size,3,none⟩) (Zab d3)).trans d3;have g8:=Hd (Zk6 w2);clear hb g0 g7 d0 d1 d2 d3 HW1;cases b with
 | false =>
   go_wp2_with fail;refine g8.out.mono ?_;rintro y w3 ⟨rfl,gu⟩;have gL:=Hd (g2.out.trans (gu.mono g2.out.size));clear gu;go_wp2_with fail;go_ret;exact⟨rfl,gL.out⟩
 | true =>
   have g6:=Hd (HB.out (by first|rfl|trivial));obtain⟨n,hn⟩:∃ n:Nat,vars=(n:Nat):=⟨vars.toNat,by have:=g6.out.lo;have:=HV.out;omega⟩;subst hn;have gO:n<=6:=by have:=g6.out.hi;have:=HV.out;omega
   have gP:1<=n:=by have:=g6.out.lo;have:=HV.out;omega
   have gS:q.es.length<=5:=g6.out.es;have gh:=Hd (g5.out w2 n g2.out g6.out rfl _ rfl);clear g5 g8 HB;go_wp2_with fail;refine gh.out.mono ?_;rintro y w3 ⟨mb,vl,vx,wb,hs,nx,rfl,g4,ge,hnx,o3,m3,V3,lt3,-⟩;have gQ:hs.length<=5:=by have:=congrArg List.length ge;simp at this;omega
   obtain⟨al,cl,gH⟩:∃ a c,vl=.slice a hs.length c:=by
    obtain⟨a,c,e,_⟩:=lt3.l.own.slice;exact⟨a,c,by rw[e];simp[Za3]⟩
   subst gH;have gG:Hid (∀ p∈hs,p∈two++hs):=Hd fun p hp=>List.mem_append_right _ hp
   have gR:(two++hs).length=2+hs.length:=by simp[two];omega
   have gM:Hid (∀ k,k<=192->k*2^n<=Zdo n):=Hd fun k hk=>Zlf hk
   have gD:Hid (wb.cell? ⟨w.heap.size,0,none⟩=some (.int .i64 (n:Nat))):=Hd ((g4.cell (p:=⟨w.heap.size,0,none⟩) (Zab e0)).trans e0);have c0:=(lt3.below0.cell (p:=⟨w.heap.size,0,none⟩) (Zab ((g4.cell (p:=⟨w.heap.size,0,none⟩) (Zab e0)).trans e0))).trans ((g4.cell (p:=⟨w.heap.size,0,none⟩) (Zab e0)).trans e0);have gE:Hid (Below w.heap.size w wb):=Hd (g2.out.trans (g4.mono g2.out.size));have gT:Hid (∀ p∈two++hs,p.1<nx):=Hd fun p hp=>(lt3.sat.range p hp).2
   have HL:=Hd ((lt3.withOd (Od':=fun _=>True) trivial).withSt (Wt':=SufW q.plan) (by rw[lt3.st.1];exact List.suffix_refl _));clear lt3 g4 ge gh e0 e1 e2 e3;have gy:=Hd (Ydy HL.out gG.out (by omega) (by omega) kf);go_wp2_with fail;refine gy.out.mono ?_;rintro y wA ⟨a1,F1,r1,rfl,gq,gr,gg⟩;have g9:=Hd (HL.out.below gg);have gj:=Hd gr;have gJ:=Hd gq;have cA:=(gg.cell (p:=⟨w.heap.size,0,none⟩) (Zab c0)).trans c0;obtain⟨ta,tc,rfl,_⟩:=gj.out.tab;clear gr gg gy HL c0 gq;obtain⟨r,hr⟩:∃ r:Nat×Nat,r=if (tabB n F1).count true=0 then (0,0) else shr n ((tabB n F1).count true):=⟨_,rfl⟩
   have gN:r.1<=65536:=by
    have h1:(tabB n F1).count true<=65536:=Nat.le_trans List.count_le_length (by rw[Zf2];exact pow64 (by omega));rw[hr];split
    . exact Nat.zero_le _
    . exact Nat.le_trans (Yca _ _) h1
   have gv:=Hd (Zip g9.out.sat gJ.out (Zzf n F1) hr);have gx:=Hd hr;clear hr;go_wp2_with fail;refine gv.out.mono ?_;rintro y w4 ⟨v4,rfl,gp,o4,m4,V4,gf,gl,gI,gn,-⟩;have gi:=Hd (g9.out.go (Wt':=SufW q.plan) gn g9.out.b2 (by show m4.waits <:+ q.plan;rw[gl];exact g9.out.st) gf);have gC:=Hd (gj.out.chg gf);have c4:=(gi.out.below0.cell (p:=⟨w.heap.size,0,none⟩) (Zab gD.out)).trans gD.out;obtain⟨ta',tc',e1,gm⟩:=gC.out.tab;injection e1 with e1 _ e3
   subst e1;subst e3
   have gw:=Hd (refShare_any (n:=n) (cu:=tc) (by omega) gm gx.out);have gB:=Hd (Yad gp (by omega));clear gm gp gf gl gI gn gv g9 gj cA gx gC;go_wp2_with fail;refine gw.out.mono ?_;rintro y w' ⟨rfl,rfl⟩;go_wp2_with fail;refine gB.out.mono ?_;rintro y w5 ⟨rfl,gt⟩;have gA:=Hd (gi.out.below gt)
   have gz:Hid (Calls prog 27 #[.pointer (some ⟨mb,0,none⟩),.int .i64 (hs.length:Nat)] w5 fun x w'=>x=.returned (.bool true)/\w5=w'):=Hd ((left_any gA.out.sat hs.length (by omega)).mono fun e w' ⟨h1,h2⟩=>by
    rw[h1,decide_eq_true (by simp[two]<;>omega)];exact⟨rfl,h2⟩)
   have gF:=Hd gA.out.below0;have g8:=Hd (Zk6 w5);clear gt gB gw gi c4;go_wp2_with fail;refine gz.out.mono ?_;rintro y w' ⟨rfl,rfl⟩;go_wp2_with fail;refine g8.out.mono ?_;rintro y w6 ⟨rfl,gs⟩;have gK:=Hd (gE.out.trans ((gF.out.trans (gs.mono gF.out.size)).mono gE.out.size));clear gs g8 gz;go_wp2_with fail;go_ret;exact⟨rfl,gK.out⟩
end Go.Proofs.YtgmbklaolcmljaaGreat
