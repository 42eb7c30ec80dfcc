/- The walk of a law: CountsW. -/
import Derived.Test.YtgmbklaolcmljaaGreatPc
set_option linter.unusedSimpArgs false
set_option linter.unusedVariables false
set_option linter.unusedSectionVars false
set_option linter.unnecessarySimpa false
set_option maxRecDepth 100000
set_option maxHeartbeats 8000000
namespace Go.Proofs.YtgmbklaolcmljaaGreat
open Go.Proofs.Tryz
open Go.RowKit
theorem cntV_le {n:Nat}(hn:n<=16)(F:BF)(zs:List Int):cntV n F zs<=65536:=Nat.le_trans List.count_le_length (by rw[Zf2];exact pow64 hn)
theorem counts_walk (q:AskD)(ao ae ap:Option Addr)(co ce cp:Nat)(kf:Int)(za:Option Addr)(zc:Nat)(zs:List Int)(w:World)(h:AskAt w q ao ae ap)(hzs:Zau w za zs) :
 Calls prog 6 #[askV q ao ae ap co ce cp,.int .i64 kf,.slice za zs.length zc] w fun y w'=>y=.returned (.bool true)/\Below w.heap.size w w':=by
 have h3:=Hd hzs;clear hzs;have gt:Hid (∀ W,Below w.heap.size w W->∀ u,u=askV q ao ae ap co ce cp->Calls prog 12 #[u] W fun y w'=>∃ b,y=.returned (.bool b)/\(b=true->Zmg q)/\Below W.heap.size W w'):=Hd fun W hb u hu=>by subst hu;exact Zyy q ao ae ap co ce cp W (h.below hb)
 have gr:Hid (∀ W n,Below w.heap.size w W->Zmg q->q.vars=(n:Nat)->∀ u,u=askV q ao ae ap co ce cp->Calls prog 22 #[u] W (SetP Zk2 q n W)):=Hd fun W n hb hs hn u hu=>by subst hu;exact Zyw Zid q ao ae ap co ce cp W (h.below hb) hs n hn
 obtain⟨vars,ge⟩:∃ z,z=q.vars:=⟨_,rfl⟩;have HV:=Hd ge;obtain⟨plen,gF⟩:∃ z,z=q.plan.length:=⟨_,rfl⟩;unfold askV at gt gr ⊢;rw[<- ge,<- gF] at gt gr ⊢;obtain⟨olen,gG⟩:∃ z,z=q.order.length:=⟨_,rfl⟩;obtain⟨elen,gH⟩:∃ z,z=q.es.length:=⟨_,rfl⟩;rw[<- gG,<- gH] at gt gr ⊢;obtain⟨w1,gD⟩:∃ w1,w1=w.alloc (.cells #[.int .i64 vars,.slice ao olen co,.slice ae elen ce,.slice ap plen cp] 26):=⟨_,rfl⟩;have HW1:Hid (_=w1):=Hd gD.symm;have gT:Hid (Below w.heap.size w w1):=by rw[gD];exact Hd (Zaf _ _)
 have g5:w1.heap[w.heap.size]?=some (.cells #[.int .i64 vars,.slice ao olen co,.slice ae elen ce,.slice ap plen cp] 26 (0,0)):=by rw[gD];exact heap_alloc_new _ _
 have d0:w1.cell? ⟨w.heap.size,0,none⟩=some (.int .i64 vars):=by rw[cell_of_row _ _ 0 _ _ _ g5];rfl
 have d1:w1.cell? ⟨w.heap.size,1,none⟩=some (.slice ao olen co):=by rw[cell_of_row _ _ 1 _ _ _ g5];rfl
 have d2:w1.cell? ⟨w.heap.size,2,none⟩=some (.slice ae elen ce):=by rw[cell_of_row _ _ 2 _ _ _ g5];rfl
 have d3:w1.cell? ⟨w.heap.size,3,none⟩=some (.slice ap plen cp):=by rw[cell_of_row _ _ 3 _ _ _ g5];rfl
 clear h gD g5 ge gF gG gH
 go_enter func6,ntmps6
 go_upto_region 1 with fail;rw[HW1.out];go_wp2_with fail;refine(gt.out _ gT.out _ rfl).mono ?_;rintro y w2 ⟨b,rfl,hb,g4⟩;have HB:=Hd hb;have g1:=Hd (gT.out.trans (g4.mono gT.out.size));have e0:=(g4.cell (p:=⟨w.heap.size,0,none⟩) (Zab d0)).trans d0;have e1:=(g4.cell (p:=⟨w.heap.size,1,none⟩) (Zab d1)).trans d1;have e2:=(g4.cell (p:=⟨w.heap.size,2,none⟩) (Zab d2)).trans d2;have e3:=(g4.cell (p:=⟨w.heap.size,3,none⟩) (Zab d3)).trans d3;have g2:=Hd (Zk6 w2);clear hb g4 gt d0 d1 d2 d3 HW1;cases b with
 | false =>
   go_wp2_with fail;refine g2.out.mono ?_;rintro y w3 ⟨rfl,gq⟩;have gS:=Hd (g1.out.trans (gq.mono g1.out.size));clear gq;go_wp2_with fail;go_ret;exact⟨rfl,gS.out⟩
 | true =>
   by_cases hf:(zs.length:Int)>20
   . go_wp2_with fail;refine g2.out.mono ?_;rintro y w3 ⟨rfl,gq⟩;have gS:=Hd (g1.out.trans (gq.mono g1.out.size));clear gq;go_wp2_with fail;go_ret;exact⟨rfl,gS.out⟩
   have gs:=Hd (HB.out (by first|rfl|trivial));obtain⟨n,hn⟩:∃ n:Nat,vars=(n:Nat):=⟨vars.toNat,by have:=gs.out.lo;have:=HV.out;omega⟩;subst hn;have hj:n<=6:=by have:=gs.out.hi;have:=HV.out;omega
   have hm:1<=n:=by have:=gs.out.lo;have:=HV.out;omega
   have hv:q.es.length<=5:=gs.out.es;have gN:=Hd (gr.out w2 n g1.out gs.out rfl _ rfl);clear gr g2 HB;go_wp2_with fail;refine gN.out.mono ?_;rintro y w3 ⟨mb,vl,vx,wb,hs,nx,rfl,gl,gK,hnx,o3,m3,V3,lt3,-⟩;have hq:hs.length<=5:=by have:=congrArg List.length gK;simp at this;omega
   obtain⟨al,cl,h8⟩:∃ a c,vl=.slice a hs.length c:=by
    obtain⟨a,c,e,_⟩:=lt3.l.own.slice;exact⟨a,c,by rw[e];simp[Za3]⟩
   subst h8;have gC:Hid (∀ p∈hs,p∈two++hs):=Hd fun p hp=>List.mem_append_right _ hp
   have ht:(two++hs).length=2+hs.length:=by simp[two];omega
   have hc:Hid (∀ k,k<=192->k*2^n<=Zdo n):=Hd fun k hk=>Zlf hk
   have hA:Hid (wb.cell? ⟨w.heap.size,0,none⟩=some (.int .i64 (n:Nat))):=Hd ((gl.cell (p:=⟨w.heap.size,0,none⟩) (Zab e0)).trans e0);have c0:=(lt3.below0.cell (p:=⟨w.heap.size,0,none⟩) (Zab ((gl.cell (p:=⟨w.heap.size,0,none⟩) (Zab e0)).trans e0))).trans ((gl.cell (p:=⟨w.heap.size,0,none⟩) (Zab e0)).trans e0);have gd:Hid (Below w.heap.size w wb):=Hd (g1.out.trans (gl.mono g1.out.size));have hy:Hid (∀ p∈two++hs,p.1<nx):=Hd fun p hp=>(lt3.sat.range p hp).2
   have HL:=Hd ((lt3.withOd (Od':=fun _=>True) trivial).withSt (Wt':=SufW q.plan) (by rw[lt3.st.1];exact List.suffix_refl _));clear lt3 gl gK gN e0 e1 e2 e3;have h5:=Hd (Ydy HL.out gC.out (by omega) (by omega) kf);go_wp2_with fail;refine h5.out.mono ?_;rintro y wA ⟨a1,F1,r1,rfl,gV,gY,gM⟩;have gv:=Hd (HL.out.below gM);have gI:=Hd gY;have h6:=Hd gV;have cA:=(gM.cell (p:=⟨w.heap.size,0,none⟩) (Zab c0)).trans c0;obtain⟨ta,tc,rfl,_⟩:=gI.out.tab;clear gY gM h5 HL c0 gV;have g9:Hid (Below w.heap.size w wA):=Hd (gd.out.trans (gv.out.below0.mono gd.out.size));have HZ:Hid (∀ W,Below w.heap.size w W->Zau W za zs):=Hd fun W hb=>h3.out.below hb
   have gR:Hid (∀ i,i<zs.length->∃ b off,za=some ⟨b,off,none⟩/\wA.cell? ⟨b,off+i,none⟩=some (.int .i64 (at0 zs i))):=Hd (HZ.out wA g9.out).cells;clear h3;go_wp2_with fail
   go_loopw [13,15,48] (fun s13 _ s48 wr=>∃ (i:Nat) (e:Int),i<=zs.length/\s48=.int .i64 (i:Int)/\s13=.int .i64 e/\Hid (e=0/\(∀ z∈zs.take i,0<=z/\z<(n:Int))\/e=9/\¬ ∀ z∈zs.take i,0<=z/\z<(n:Int))/\Hid (wA=wr)) (fun _ _ s48 _=>zs.length-(intOf s48).toNat)
   case atStart=>exact⟨0,0,Nat.zero_le _,rfl,rfl,Hd (.inl ⟨rfl,by simp⟩),Hd rfl⟩
   case round =>
    obtain⟨i,e,hi,rfl,rfl,HE,HW⟩:=hrel;have hw:=HW.out;subst hw
    by_cases gX:i<zs.length
    ·have ho:(i:Int)<(zs.length:Int):=by omega
     obtain⟨b,off,rfl,ck⟩:=gR.out i gX;have gy:Hid (zs.take (i+1)=zs.take i++[at0 zs i]):=Hd (by rw[List.take_add_one,getElem?_at0 gX];rfl);obtain⟨z,hz⟩:∃ z,z=at0 zs i:=⟨_,rfl⟩;rw[<- hz] at ck gy;have g8:Hid (¬ (0<=z/\z<(n:Int))->(9:Int)=0/\(∀ z∈zs.take (i+1),0<=z/\z<(n:Int))\/(9:Int)=9/\¬ ∀ z∈zs.take (i+1),0<=z/\z<(n:Int)):=Hd fun hr=>.inr ⟨rfl,fun gB=>hr (gB z (by rw[gy.out];simp))⟩
     have gf:Hid (0<=z/\z<(n:Int)->e=0/\(∀ z∈zs.take (i+1),0<=z/\z<(n:Int))\/e=9/\¬ ∀ z∈zs.take (i+1),0<=z/\z<(n:Int)):=Hd fun hr=>by
      rcases HE.out with ⟨h1,h2⟩|⟨h1,h2⟩
      ·refine .inl ⟨h1,fun x hx=>?_⟩;rw[gy.out] at hx;rcases List.mem_append.1 hx with hx|hx
       . exact h2 x hx
       . simp at hx;rw[hx];exact hr
      . exact .inr ⟨h1,fun gB=>h2 fun x hx=>gB x (by rw[gy.out];exact List.mem_append_left _ hx)⟩
     clear hz gy HE gR
     by_cases hh:z<0
     ·have HN:=Hd (g8.out (by omega));clear g8 gf;go_wp2_with fail;go_roundw
      case rel=>exact⟨i+1,9,by omega,by rw[show ((i+1:Nat):Int)=(i:Int)+1 by omega],rfl,HN,Hd trivial⟩
      case measure=>simp[intOf];omega
     ·by_cases hg:z>=(n:Int)
      ·have HN:=Hd (g8.out (by omega));clear g8 gf;go_wp2_with fail;go_roundw
       case rel=>exact⟨i+1,9,by omega,by rw[show ((i+1:Nat):Int)=(i:Int)+1 by omega],rfl,HN,Hd trivial⟩
       case measure=>simp[intOf];omega
      ·have HN:=Hd (gf.out (by omega));clear g8 gf;go_wp2_with fail;go_roundw
       case rel=>exact⟨i+1,e,by omega,by rw[show ((i+1:Nat):Int)=(i:Int)+1 by omega],rfl,HN,Hd trivial⟩
       case measure=>simp[intOf];omega
    ·obtain rfl:i=zs.length:=by omega
     have hd:¬ (zs.length:Int)<(zs.length:Int):=by omega
     have he:=HE.out;rw[List.take_length] at he;obtain⟨er,gb⟩:∃ er,er=cntE n F1 zs:=⟨_,rfl⟩;have gQ:=Hd gb.symm;clear HE gR;rcases he with ⟨h0,gj⟩|⟨h9,gj⟩
     ·subst h0;have h7:=Hd gj;obtain⟨tb,tc2,e1,gU⟩:=gI.out.tab;injection e1 with e1 _ e3
      subst e1;subst e3
      have gE:=refCount_any (n:=n) (cu:=tc) (c:=zc) (by omega) gU (HZ.out wA g9.out) h7.out;rw[<- gb] at gE
      have gc:Hid ((if er=0 then cntV n F1 zs else 0)<9223372036854775808):=Hd (by
       have:=cntV_le (n:=n) (by omega) F1 zs;split<;>omega)
      obtain⟨N,hN⟩:∃ N,N=if er=0 then cntV n F1 zs else 0:=⟨_,rfl⟩
      rw[<- hN] at gE gc;have ha:=Hd hN.symm;have h4:=Hd gE;clear gE hN gU gj h7 gb;go_wp2_with fail;refine h4.out.mono ?_;rintro y wB ⟨rfl,gL⟩;have g0:=Hd (gv.out.below gL);have gz:Hid (Below w.heap.size w wB):=Hd (g9.out.trans (gL.mono g9.out.size));clear gL h4 gv g9 cA;have g7:=Hd (Zoj (c:=zc) g0.out.sat h6.out (HZ.out wB gz.out));rw[gQ.out,ha.out] at g7;go_wp2_with fail;refine g7.out.mono ?_;rintro y w4 ⟨v4,rfl,gi,o4,m4,V4,gk,gg,gJ,gh,-⟩;have gw:=Hd (g0.out.go (Wt':=SufW q.plan) gh g0.out.b2 (by show m4.waits <:+ q.plan;rw[gg];exact g0.out.st) gk);have gx:=Hd (Yad gi gc.out);clear gi gk gg gJ gh g7 g0 gI HZ gQ gc gz;go_wp2_with fail;refine gx.out.mono ?_;rintro y w5 ⟨rfl,gp⟩;have g3:=Hd (gw.out.below gp);have ga:=Hd (all_any g3.out.sat (by omega) (g3.out.row gC.out (by omega)));clear gp gx gw;go_wp2_with fail;refine ga.out.mono ?_;rintro y w6 ⟨rfl,gn⟩;have g6:=Hd (g3.out.below gn)
      have gu:Hid (Calls prog 27 #[.pointer (some ⟨mb,0,none⟩),.int .i64 (hs.length:Nat)] w6 fun x w'=>x=.returned (.bool true)/\w6=w'):=Hd ((left_any g6.out.sat hs.length (by omega)).mono fun e w' ⟨h1,h2⟩=>by
       rw[h1,decide_eq_true (by simp[two]<;>omega)];exact⟨rfl,h2⟩)
      have gA:=Hd g6.out.below0;have g2:=Hd (Zk6 w6);clear gn ga g3 g6;go_wp2_with fail;refine gu.out.mono ?_;rintro y w' ⟨rfl,rfl⟩;go_wp2_with fail;refine g2.out.mono ?_;rintro y w7 ⟨rfl,gm⟩;have gO:=Hd (gd.out.trans ((gA.out.trans (gm.mono gA.out.size)).mono gd.out.size));clear gm g2 gu;go_wp2_with fail;go_ret;exact⟨rfl,gO.out⟩
     ·subst h9;have gZ:er=9:=by
       rw[gb];unfold cntE;rw[if_neg gj]
      have gP:Hid (cntE n F1 zs=9):=Hd (gb.symm.trans gZ);have gc:Hid (0<9223372036854775808):=Hd (by omega);have g0:=gv;have gz:=g9;clear gQ gb gZ gj gv g9 cA er;have g7:=Hd (Zoj (c:=zc) g0.out.sat h6.out (HZ.out wA gz.out));rw[gP.out,if_neg (by decide)] at g7;go_wp2_with fail;refine g7.out.mono ?_;rintro y w4 ⟨v4,rfl,gi,o4,m4,V4,gk,gg,gJ,gh,-⟩;have gw:=Hd (g0.out.go (Wt':=SufW q.plan) gh g0.out.b2 (by show m4.waits <:+ q.plan;rw[gg];exact g0.out.st) gk);have gx:=Hd (Yad gi gc.out);clear gi gk gg gJ gh g7 g0 gI HZ gP gc gz;go_wp2_with fail;refine gx.out.mono ?_;rintro y w5 ⟨rfl,gp⟩;have g3:=Hd (gw.out.below gp);have ga:=Hd (all_any g3.out.sat (by omega) (g3.out.row gC.out (by omega)));clear gp gx gw;go_wp2_with fail;refine ga.out.mono ?_;rintro y w6 ⟨rfl,gn⟩;have g6:=Hd (g3.out.below gn)
      have gu:Hid (Calls prog 27 #[.pointer (some ⟨mb,0,none⟩),.int .i64 (hs.length:Nat)] w6 fun x w'=>x=.returned (.bool true)/\w6=w'):=Hd ((left_any g6.out.sat hs.length (by omega)).mono fun e w' ⟨h1,h2⟩=>by
       rw[h1,decide_eq_true (by simp[two]<;>omega)];exact⟨rfl,h2⟩)
      have gA:=Hd g6.out.below0;have g2:=Hd (Zk6 w6);clear gn ga g3 g6;go_wp2_with fail;refine gu.out.mono ?_;rintro y w' ⟨rfl,rfl⟩;go_wp2_with fail;refine g2.out.mono ?_;rintro y w7 ⟨rfl,gm⟩;have gO:=Hd (gd.out.trans ((gA.out.trans (gm.mono gA.out.size)).mono gd.out.size));clear gm g2 gu;go_wp2_with fail;go_ret;exact⟨rfl,gO.out⟩
end Go.Proofs.YtgmbklaolcmljaaGreat
