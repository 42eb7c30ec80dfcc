/- The walk of a law: WaysW. -/
import Derived.Test.YtgmbklaolcmljaaGreatPw
set_option linter.unusedSimpArgs false
set_option linter.unusedVariables false
set_option linter.unusedSectionVars false
set_option linter.unnecessarySimpa false
set_option maxRecDepth 100000
set_option maxHeartbeats 8000000
namespace Go.Proofs.YtgmbklaolcmljaaGreat
open Go.Proofs.Tryz
open Go.RowKit
theorem elemLit19:ElemP 66 65 (.agg #[.int .i64 0,.bool false]) 16:=⟨underlying65,by kernel_rfl,rfl,by omega⟩
def litV (ls:List (Int×Bool)):List (Value×Value):=ls.map fun p=>(.int .i64 p.1,.bool p.2)
theorem litV_snoc (ls:List (Int×Bool))(pv:Int)(py:Bool):litV (ls++[(pv,py)])=litV ls++[(.int .i64 pv,.bool py)]:=by simp[litV]
theorem lits_own {T:TypeId}{w:World}{base:Nat}{v:Value}{ls:List (Int×Bool)}(h:OwnP T w base v (litV ls))(hl:ls.length<=1000):∃ a c,v=.slice a ls.length c/\LitsAt w a ls/\∀ x,a=some x->base<=x.block:=by
 obtain⟨a,c,e,hc⟩:=h.slice;have g0:(litV ls).length=ls.length:=by simp[litV]
 rw[g0] at e;refine⟨a,c,e,⟨by omega,fun k hk=>?_⟩,fun x hx=>(h.lt x.block (by rw[e,hx];rfl)).1⟩;obtain⟨g,e1,c0,c1⟩:=hc k (by rw[g0];exact hk);refine⟨g,0,e1,?_,?_⟩
 . rw[Nat.zero_add];simpa [litV] using c0
 . rw[Nat.zero_add];simpa [litV] using c1
theorem LitsAt.chgO {o o':Own}{w w':World}{a:Option Addr}{ls:List (Int×Bool)}(h:LitsAt w a ls)(hc:ChgX NoB o o' w w')(hn:∀ x,a=some x->o x.block=none):LitsAt w' a ls :=
 h.keep fun _ x v hx q hq=>hc.cell (p:=⟨x.block,q,none⟩) hq (hn x hx) (fun e=>e)
theorem litsR_zero {n:Nat}{ls:List (Int×Bool)}(h:litsR n ls=0):(∀ p∈ls,0<=p.1/\p.1<(n:Int))/\(ls.map (·.1)).Nodup:=by
 unfold litsR at h
 by_cases h1:∀ p∈ls,0<=p.1/\p.1<(n:Int)
 ·rw[if_pos h1] at h
  by_cases h2:(ls.map (·.1)).Nodup
  . exact⟨h1,h2⟩
  . rw[if_neg h2] at h;cases h
 . rw[if_neg h1] at h;cases h
def W19a (ls:List (Int×Bool))(i j:Nat)(pv e:Int):Prop:=e=0/\((ls.take i).map (·.1)).Nodup/\(∀ q,q<j->∀ p:Int×Bool,ls[q]?=some p->p.1≠pv)\/e=6/\¬ ((ls.take (i+1)).map (·.1)).Nodup
def W19b (ls:List (Int×Bool))(i:Nat)(e:Int):Prop:=e=0/\((ls.take i).map (·.1)).Nodup\/e=6/\¬ ((ls.take i).map (·.1)).Nodup
def W19c (n:Nat)(ls:List (Int×Bool))(j:Nat)(e g:Int):Prop:=(∀ p∈ls.take j,0<=p.1/\p.1<(n:Int))/\g=e\/(¬ ∀ p∈ls.take j,0<=p.1/\p.1<(n:Int))/\g=9
theorem wayV_le {n:Nat}(hn:n<=16)(F:BF)(ls:List (Int×Bool)):wayV n F ls<=65536:=Nat.le_trans List.count_le_length (by rw[Zf2];exact pow64 hn)
theorem ways_walk (q:AskD)(ao ae ap:Option Addr)(co ce cp:Nat)(kf:Int)(la:Option Addr)(lc:Nat)(ls:List (Int×Bool))(no:Int)(w:World)(h:AskAt w q ao ae ap)(hls:LitsAt w la ls) :
 Calls prog 5 #[askV q ao ae ap co ce cp,.int .i64 kf,.slice la ls.length lc,.int .i64 no] w fun y w'=>y=.returned (.bool true)/\Below w.heap.size w w':=by
 have k0:=Hd hls;clear hls;have gK:Hid (∀ W,Below w.heap.size w W->∀ u,u=askV q ao ae ap co ce cp->Calls prog 12 #[u] W fun y w'=>∃ b,y=.returned (.bool b)/\(b=true->Zmg q)/\Below W.heap.size W w'):=Hd fun W hb u hu=>by subst hu;exact Zyy q ao ae ap co ce cp W (h.below hb)
 have gI:Hid (∀ W n,Below w.heap.size w W->Zmg q->q.vars=(n:Nat)->∀ u,u=askV q ao ae ap co ce cp->Calls prog 22 #[u] W (SetP Zk2 q n W)):=Hd fun W n hb hs hn u hu=>by subst hu;exact Zyw Zid q ao ae ap co ce cp W (h.below hb) hs n hn
 obtain⟨vars,gx⟩:∃ z,z=q.vars:=⟨_,rfl⟩;have HV:=Hd gx;obtain⟨plen,gV⟩:∃ z,z=q.plan.length:=⟨_,rfl⟩;unfold askV at gK gI ⊢;rw[<- gx,<- gV] at gK gI ⊢;obtain⟨olen,gX⟩:∃ z,z=q.order.length:=⟨_,rfl⟩;obtain⟨elen,gZ⟩:∃ z,z=q.es.length:=⟨_,rfl⟩;rw[<- gX,<- gZ] at gK gI ⊢;obtain⟨w1,gU⟩:∃ w1,w1=w.alloc (.cells #[.int .i64 vars,.slice ao olen co,.slice ae elen ce,.slice ap plen cp] 26):=⟨_,rfl⟩;have HW1:Hid (_=w1):=Hd gU.symm;have hK:Hid (Below w.heap.size w w1):=by rw[gU];exact Hd (Zaf _ _)
 have gn:w1.heap[w.heap.size]?=some (.cells #[.int .i64 vars,.slice ao olen co,.slice ae elen ce,.slice ap plen cp] 26 (0,0)):=by rw[gU];exact heap_alloc_new _ _
 have d0:w1.cell? ⟨w.heap.size,0,none⟩=some (.int .i64 vars):=by rw[cell_of_row _ _ 0 _ _ _ gn];rfl
 have d1:w1.cell? ⟨w.heap.size,1,none⟩=some (.slice ao olen co):=by rw[cell_of_row _ _ 1 _ _ _ gn];rfl
 have d2:w1.cell? ⟨w.heap.size,2,none⟩=some (.slice ae elen ce):=by rw[cell_of_row _ _ 2 _ _ _ gn];rfl
 have d3:w1.cell? ⟨w.heap.size,3,none⟩=some (.slice ap plen cp):=by rw[cell_of_row _ _ 3 _ _ _ gn];rfl
 clear h gU gn gx gV gX gZ
 go_enter func5,ntmps5
 go_upto_region 1 with fail;rw[HW1.out];go_wp2_with fail;refine(gK.out _ hK.out _ rfl).mono ?_;rintro y w2 ⟨b,rfl,hb,gj⟩;have HB:=Hd hb;have ge:=Hd (hK.out.trans (gj.mono hK.out.size));have e0:=(gj.cell (p:=⟨w.heap.size,0,none⟩) (Zab d0)).trans d0;have e1:=(gj.cell (p:=⟨w.heap.size,1,none⟩) (Zab d1)).trans d1;have e2:=(gj.cell (p:=⟨w.heap.size,2,none⟩) (Zab d2)).trans d2;have e3:=(gj.cell (p:=⟨w.heap.size,3,none⟩) (Zab d3)).trans d3;have g1:=Hd (Zk6 w2);clear hb gj gK d0 d1 d2 d3 HW1;cases b with
 | false =>
   go_wp2_with fail;refine g1.out.mono ?_;rintro y w3 ⟨rfl,gF⟩;have hJ:=Hd (ge.out.trans (gF.mono ge.out.size));clear gF;go_wp2_with fail;go_ret;exact⟨rfl,hJ.out⟩
 | true =>
   by_cases kx:(ls.length:Int)>20
   . go_wp2_with fail;refine g1.out.mono ?_;rintro y w3 ⟨rfl,gF⟩;have hJ:=Hd (ge.out.trans (gF.mono ge.out.size));clear gF;go_wp2_with fail;go_ret;exact⟨rfl,hJ.out⟩
   have gJ:=Hd (HB.out (by first|rfl|trivial));obtain⟨n,hn⟩:∃ n:Nat,vars=(n:Nat):=⟨vars.toNat,by have:=gJ.out.lo;have:=HV.out;omega⟩;subst hn;have kC:n<=6:=by have:=gJ.out.hi;have:=HV.out;omega
   have kD:1<=n:=by have:=gJ.out.lo;have:=HV.out;omega
   have kI:q.es.length<=5:=gJ.out.es;have hB:=Hd (gI.out w2 n ge.out gJ.out rfl _ rfl);clear gI g1 HB;go_wp2_with fail;refine hB.out.mono ?_;rintro y w3 ⟨mb,vl,vx,wb,hs,nx,rfl,gD,hd,hnx,o3,m3,V3,lt3,-⟩;have kG:hs.length<=5:=by have:=congrArg List.length hd;simp at this;omega
   obtain⟨al,cl,kq⟩:∃ a c,vl=.slice a hs.length c:=by
    obtain⟨a,c,e,_⟩:=lt3.l.own.slice;exact⟨a,c,by rw[e];simp[Za3]⟩
   subst kq;have kn:Hid (∀ p∈hs,p∈two++hs):=Hd fun p hp=>List.mem_append_right _ hp
   have kH:(two++hs).length=2+hs.length:=by simp[two];omega
   have kw:Hid (∀ k,k<=192->k*2^n<=Zdo n):=Hd fun k hk=>Zlf hk
   have kK:Hid (wb.cell? ⟨w.heap.size,0,none⟩=some (.int .i64 (n:Nat))):=Hd ((gD.cell (p:=⟨w.heap.size,0,none⟩) (Zab e0)).trans e0);have c0:=(lt3.below0.cell (p:=⟨w.heap.size,0,none⟩) (Zab ((gD.cell (p:=⟨w.heap.size,0,none⟩) (Zab e0)).trans e0))).trans ((gD.cell (p:=⟨w.heap.size,0,none⟩) (Zab e0)).trans e0);have gw:Hid (Below w.heap.size w wb):=Hd (ge.out.trans (gD.mono ge.out.size));have kJ:Hid (∀ p∈two++hs,p.1<nx):=Hd fun p hp=>(lt3.sat.range p hp).2
   have HL:=Hd ((lt3.withOd (Od':=fun _=>True) trivial).withSt (Wt':=SufW q.plan) (by rw[lt3.st.1];exact List.suffix_refl _));clear lt3 gD hd hB e0 e1 e2 e3;have k6:=Hd (Ydy HL.out kn.out (by omega) (by omega) kf);go_wp2_with fail;refine k6.out.mono ?_;rintro y wA ⟨a1,F1,r1,rfl,hR,hY,hw⟩;have h4:=Hd (HL.out.below hw);have hH:=Hd hY;have ku:=Hd hR;have cA:=(hw.cell (p:=⟨w.heap.size,0,none⟩) (Zab c0)).trans c0;obtain⟨ta,tc,rfl,_⟩:=hH.out.tab;clear hY hw k6 HL c0 hR;have kj:Hid (Below w.heap.size w wA):=Hd (gw.out.trans (h4.out.below0.mono gw.out.size));have HZ:Hid (∀ W,Below wA.heap.size wA W->LitsAt W la ls):=Hd fun W hb=>k0.out.below (kj.out.trans (hb.mono kj.out.size))
   have k8:Hid (OwnP 66 wA wA.heap.size (.slice none 0 0) (litV (ls.take 0))):=Hd (ownP_nil _ _ _);have kk:Hid (Below wA.heap.size wA wA):=Hd (Below.refl _ _);have k9:Hid (∀ q,wA.heap.size<=q->o3 q=none):=Hd fun q hq=>h4.out.sat.lt.none hq
   clear k0;go_wp2_with fail
   go_loopw [15,16,17,18,19,62] (fun s15 s16 _ _ _ s62 wr=>∃ (i:Nat) (e:Int),i<=ls.length/\s62=.int .i64 (i:Int)/\s15=.int .i64 e/\Hid (W19b ls i e)/\Hid (OwnP 66 wr wA.heap.size s16 (litV (ls.take i)))/\Hid (Below wA.heap.size wA wr)) (fun _ _ _ _ _ s62 _=>ls.length-(intOf s62).toNat)
   case atStart=>exact⟨0,0,Nat.zero_le _,rfl,rfl,Hd (.inl ⟨rfl,by simp⟩),k8,kk⟩
   case round =>
    obtain⟨i,e,hi,rfl,rfl,HE,HO,HB⟩:=hrel
    by_cases gA:i<ls.length
    ·have kF:(i:Int)<(ls.length:Int):=by omega
     obtain⟨b,off,rfl,d0,d1⟩:=(HZ.out wr HB.out).cells i gA;have g0:Hid (ls.take (i+1)=ls.take i++[ls[i]]):=Hd (List.take_succ_eq_append_getElem gA)
     have gO:Hid (∀ j,j<i->∃ p:Int×Bool,ls[j]?=some p/\p∈ls.take i):=Hd fun j hj=>⟨ls[j]'(by omega),List.getElem?_eq_getElem _,by
      have h1:(ls.take i)[j]'(by simp;omega)=ls[j]'(by omega):=by simp
      rw[<- h1];exact List.getElem_mem _⟩
     have gL:Hid (∀ x,(∀ j,j<i->∀ p:Int×Bool,ls[j]?=some p->p.1≠x)->x∉(ls.take i).map (·.1)):=Hd fun x hx hm=>by
      obtain⟨p,hp,e⟩:=List.mem_map.1 hm;obtain⟨j,hj,e2⟩:=List.getElem_of_mem hp;have hX:j<i/\j<ls.length:=by simp at hj;omega
      refine hx j hX.1 p ?_ e;rw[List.getElem?_eq_getElem hX.2,<- e2];simp
     obtain⟨p,hp⟩:∃ p,p=ls[i]:=⟨_,rfl⟩;rw[<- hp] at d0 d1 g0;obtain⟨pv,py⟩:=p;dsimp only at d0 d1 g0;obtain⟨w5,g9⟩:∃ w5,w5=wr.alloc (.cells #[.int .i64 pv,.bool py] 44):=⟨_,rfl⟩;have gt:Hid (_=w5):=Hd g9.symm;have ga:Below wr.heap.size wr w5:=by rw[g9];exact Zaf _ _
     have g5:w5.heap[wr.heap.size]?=some (.cells #[.int .i64 pv,.bool py] 44 (0,0)):=by rw[g9];exact heap_alloc_new _ _
     have hO:wr.heap.size<w5.heap.size:=by rw[g9];simp
     have gk:Hid (Below wA.heap.size wA w5):=Hd (HB.out.trans (ga.mono HB.out.size));have e0:w5.cell? ⟨wr.heap.size,0,none⟩=some (.int .i64 pv):=by simp[World.cell?,g5]
     have e1:w5.cell? ⟨wr.heap.size,1,none⟩=some (.bool py):=by simp[World.cell?,g5]
     have k7:=Hd (HO.out.below ga);have kr:(litV (ls.take i)).length<1099511627776:=by simp[litV];omega
     have kh:Hid (∀ v' w',Zdg u16 v' w5 w'->w'.cell? ⟨wr.heap.size,0,none⟩=some (.int .i64 pv)):=Hd fun v' w' hk=>(World.cell?_of_block (w:=w5) (a:=⟨wr.heap.size,0,none⟩) (hk.keep wr.heap.size hO (fun e=>by have:=(HO.out.lt _ e.symm).2;omega))).trans e0
     clear hp g9 ga g5;go_upto_region 12 with fail;rw[gt.out];go_upto_region 13 with (at_builtin;refine wpList_appP elemLit19 w5 rfl _ _ rfl wA.heap.size wA u16 (litV (ls.take i)) (.int .i64 pv) (.bool py) rfl rfl rfl rfl ⟨rfl,rfl⟩ (by exact k7.out) kr (by exact gk.out.size) (by exact gk.out) ?_;intro v' w7 k1 k2 k3 k4)
     have gu:Hid (OwnP 66 w7 wA.heap.size v' (litV (ls.take (i+1)))):=Hd (by rw[g0.out,litV_snoc];exact k1);have gb:Hid (Below wA.heap.size wA w7):=Hd k2;have c7:=kh.out v' w7 k4
     have gP:Hid (W19a ls i 0 pv e):=Hd (by
      rcases HE.out with ⟨h1,h2⟩|⟨h1,h2⟩
      . exact .inl ⟨h1,h2,fun j hj=>by omega⟩
      . refine .inr ⟨h1,fun hn=>h2 ?_⟩;rw[g0.out,List.map_append] at hn;exact(List.nodup_append.1 hn).1)
     clear k1 k2 k3 k4 HO k7 gk kh HE d0 d1 e0 e1 HB hO gt;go_wp2_with fail;obtain⟨sx,hN⟩:∃ sx,sx=wr.heap.size:=⟨_,rfl⟩;rw[<- hN] at c7 ⊢;clear hN;obtain⟨wo,kp⟩:∃ wo:World,wo=wr:=⟨_,rfl⟩;clear kp
     go_loopw [15,19] (fun s15 s19 wr=>∃ (j:Nat) (e:Int),j<=i/\s19=.int .i64 (j:Int)/\s15=.int .i64 e/\Hid (W19a ls i j pv e)/\Hid (Below w7.heap.size w7 wr)) (fun _ s19 _=>i-(intOf s19).toNat)
     case atStart=>exact⟨0,e,Nat.zero_le _,rfl,rfl,gP,Hd (Below.refl _ _)⟩
     case round =>
      obtain⟨j,e,hj,rfl,rfl,HE,g4⟩:=hrel;rcases HE.out with ⟨rfl,gz,hq⟩|⟨rfl,hP⟩
      ·by_cases hW:j<i
       ·have hv:(j:Int)<(i:Int):=by omega
        have hU:j<ls.length:=by omega
        have ky:(j:Int)<(ls.length:Int):=by omega
        have hz:=HZ.out wr (gb.out.trans (g4.out.mono gb.out.size));obtain⟨b2,off2,e2,d0,d1⟩:=hz.cells j hU;cases e2;have c8:=(g4.out.cell (p:=⟨sx,0,none⟩) (Zab c7)).trans c7;have gN:=Hd (List.getElem?_eq_getElem hU);obtain⟨p,hp⟩:∃ p,p=ls[j]:=⟨_,rfl⟩;rw[<- hp] at d0 d1 gN;obtain⟨xv,xy⟩:=p;dsimp only at d0 d1;have ki:Hid (∀ q,Below w7.heap.size w7 (wr.drewN q)):=Hd fun q=>g4.out.trans ((Zag wr q).mono g4.out.size)
        by_cases h8:xv=pv
        ·have HN:Hid (W19a ls i (j+1) pv 6):=Hd (.inr ⟨rfl,fun hn=>by
          rw[g0.out,List.map_append] at hn;obtain⟨p,h1,h2⟩:=gO.out j hW;rw[gN.out] at h1;cases h1;exact(List.nodup_append.1 hn).2.2 xv (List.mem_map.2 ⟨_,h2,rfl⟩) pv (by simp) h8⟩)
         subst h8;clear hz hp gz hq HE g4 gO gL g0 gu gb gP gN;go_wp2_with fail
         go_quiet (fail)
         go_wp2_with fail;go_roundw
         case rel=>exact⟨j+1,6,by omega,by rw[show ((j+1:Nat):Int)=(j:Int)+1 by omega],rfl,HN,Hd (ki.out _)⟩
         case measure=>simp[intOf];omega
        ·have HN:Hid (W19a ls i (j+1) pv 0):=Hd (.inl ⟨rfl,gz,fun q kB p hp2=>by
          rcases(show q<j\/q=j by omega) with c|rfl
          . exact hq q c p hp2
          . rw[gN.out] at hp2;cases hp2;exact h8⟩)
         clear hz hp gz hq HE g4 gO gL g0 gu gb gP gN;go_wp2_with fail
         go_quiet (fail)
         go_wp2_with fail;go_roundw
         case rel=>exact⟨j+1,0,by omega,by rw[show ((j+1:Nat):Int)=(j:Int)+1 by omega],rfl,HN,Hd (ki.out _)⟩
         case measure=>simp[intOf];omega
       ·obtain rfl:j=i:=by omega
        have kl:¬ (j:Int)<(j:Int):=by omega
        have HN:Hid (W19b ls (j+1) 0):=Hd (.inl ⟨rfl,by
         rw[g0.out,List.map_append];refine List.nodup_append.2 ⟨gz,by simp,fun x hx y hy e=>?_⟩;simp at hy;subst hy;subst e
         exact gL.out _ hq hx⟩)
        have h3:=Hd (gu.out.below g4.out);have h7:=Hd (gb.out.trans (g4.out.mono gb.out.size));clear gz hq HE gO gL g0 gu gb gP g4 c7;go_wp2_with fail;go_roundw
        case rel=>exact⟨j+1,0,by omega,by rw[show ((j+1:Nat):Int)=(j:Int)+1 by omega],rfl,HN,h3,h7⟩
        case measure=>simp[intOf];omega
      ·have HN:Hid (W19b ls (i+1) 6):=Hd (.inr ⟨rfl,hP⟩);have h3:=Hd (gu.out.below g4.out);have h7:=Hd (gb.out.trans (g4.out.mono gb.out.size));clear hP HE gO gL g0 gu gb gP g4 c7
       by_cases hW:j<i
       ·have hv:(j:Int)<(i:Int):=by omega
        go_wp2_with fail;go_roundw
        case rel=>exact⟨i+1,6,by omega,by rw[show ((i+1:Nat):Int)=(i:Int)+1 by omega],rfl,HN,h3,h7⟩
        case measure=>simp[intOf];omega
       ·have hv:¬ (j:Int)<(i:Int):=by omega
        go_wp2_with fail;go_roundw
        case rel=>exact⟨i+1,6,by omega,by rw[show ((i+1:Nat):Int)=(i:Int)+1 by omega],rfl,HN,h3,h7⟩
        case measure=>simp[intOf];omega
    ·obtain rfl:i=ls.length:=by omega
     have kl:¬ (ls.length:Int)<(ls.length:Int):=by omega
     have he:=HE.out;unfold W19b at he;have ho:=HO.out;rw[List.take_length] at he ho
     have hI:Hid (e=if (ls.map (·.1)).Nodup then 0 else 6):=Hd (by
      rcases he with ⟨h1,h2⟩|⟨h1,h2⟩
      . rw[if_pos h2];exact h1
      . rw[if_neg h2];exact h1)
     have hD:=Hd ho;have gr:=HB;obtain⟨wq,ko⟩:∃ wq,wq=wr:=⟨_,rfl⟩;subst ko;have kd:=Hd (h4.out.below HB.out);have cQ:=(HB.out.cell (p:=⟨w.heap.size,0,none⟩) (Zab cA)).trans cA;have hC:Hid (W19c n ls 0 e e):=Hd (.inl ⟨by simp,rfl⟩);clear he ho HE HO kk k8 h4 HB cA;go_wp2_with fail
     go_loopw [15,21,91] (fun s15 _ s91 wr=>∃ (j:Nat) (g:Int),j<=ls.length/\s91=.int .i64 (j:Int)/\s15=.int .i64 g/\Hid (W19c n ls j e g)/\Hid (Below wq.heap.size wq wr)) (fun _ _ s91 _=>ls.length-(intOf s91).toNat)
     case atStart=>exact⟨0,e,Nat.zero_le _,rfl,rfl,hC,Hd (Below.refl _ _)⟩
     case round =>
      obtain⟨j,g,hj,rfl,rfl,HG,HB⟩:=hrel
      by_cases gA:j<ls.length
      ·have kE:(j:Int)<(ls.length:Int):=by omega
       obtain⟨b,off,rfl,d0,d1⟩:=(HZ.out wr (gr.out.trans (HB.out.mono gr.out.size))).cells j gA;have g0:Hid (ls.take (j+1)=ls.take j++[ls[j]]):=Hd (List.take_succ_eq_append_getElem gA);obtain⟨p,hp⟩:∃ p,p=ls[j]:=⟨_,rfl⟩;rw[<- hp] at d0 d1 g0;obtain⟨pv,py⟩:=p;dsimp only at d0 d1 g0;obtain⟨w5,g9⟩:∃ w5,w5=wr.alloc (.cells #[.int .i64 pv,.bool py] 44):=⟨_,rfl⟩;have gt:Hid (_=w5):=Hd g9.symm;have ga:Below wr.heap.size wr w5:=by rw[g9];exact Zaf _ _
       have g5:w5.heap[wr.heap.size]?=some (.cells #[.int .i64 pv,.bool py] 44 (0,0)):=by rw[g9];exact heap_alloc_new _ _
       have gk:Hid (Below wq.heap.size wq w5):=Hd (HB.out.trans (ga.mono HB.out.size));have e0:w5.cell? ⟨wr.heap.size,0,none⟩=some (.int .i64 pv):=by simp[World.cell?,g5]
       have c5:=(gk.out.cell (p:=⟨w.heap.size,0,none⟩) (Zab cQ)).trans cQ;have gs:Hid (¬ (0<=pv/\pv<(n:Int))->W19c n ls (j+1) e 9):=Hd fun hr=>.inr ⟨fun km=>hr (km (pv,py) (by rw[g0.out];simp)),rfl⟩
       have gy:Hid ((0<=pv/\pv<(n:Int))->W19c n ls (j+1) e g):=Hd fun hr=>by
        rcases HG.out with ⟨h1,h2⟩|⟨h1,h2⟩
        ·refine .inl ⟨fun p hp=>?_,h2⟩;rw[g0.out] at hp;rcases List.mem_append.1 hp with hp|hp
         . exact h1 p hp
         . simp at hp;rw[hp];exact hr
        . exact .inr ⟨fun hc=>h1 fun p hp=>hc p (by rw[g0.out];exact List.mem_append_left _ hp),h2⟩
       clear hp g9 ga g5 HG g0 HB hI hD hC
       by_cases kA:pv<0
       ·have HN:=Hd (gs.out (by omega));clear gs gy;go_upto_region 22 with fail;rw[gt.out];go_wp2_with fail;go_roundw
        case rel=>exact⟨j+1,9,by omega,by rw[show ((j+1:Nat):Int)=(j:Int)+1 by omega],rfl,HN,gk⟩
        case measure=>simp[intOf];omega
       ·by_cases kz:pv>=(n:Int)
        ·have HN:=Hd (gs.out (by omega));clear gs gy;go_upto_region 22 with fail;rw[gt.out];go_wp2_with fail;go_roundw
         case rel=>exact⟨j+1,9,by omega,by rw[show ((j+1:Nat):Int)=(j:Int)+1 by omega],rfl,HN,gk⟩
         case measure=>simp[intOf];omega
        ·have HN:=Hd (gy.out (by omega));clear gs gy;go_upto_region 22 with fail;rw[gt.out];go_wp2_with fail;go_roundw
         case rel=>exact⟨j+1,g,by omega,by rw[show ((j+1:Nat):Int)=(j:Int)+1 by omega],rfl,HN,gk⟩
         case measure=>simp[intOf];omega
      ·obtain rfl:j=ls.length:=by omega
       have kv:¬ (ls.length:Int)<(ls.length:Int):=by omega
       have hg:=HG.out;unfold W19c at hg;rw[List.take_length] at hg
       have h6:Hid (litsR n ls=g):=Hd (by
        unfold litsR;rcases hg with ⟨h1,h2⟩|⟨h1,h2⟩
        . rw[if_pos h1,h2,hI.out]
        . rw[if_neg h1,h2])
       have gv:=Hd (kd.out.below HB.out);have h9:=satcWays_any gv.out.sat ku.out (c:=lc) (HZ.out wr (gr.out.trans (HB.out.mono gr.out.size)));rw[h6.out] at h9;have hA:=Hd h9;have gY:ls.length<=1000:=by omega
       obtain⟨ka,kc,rfl,g3,hS⟩:=lits_own (hD.out.below HB.out) gY;have hF:=Hd g3;have hE:Hid (∀ x,ka=some x->o3 x.block=none):=Hd fun x hx=>k9.out _ (hS x hx)
       have hG:=Hd (hH.out.chg (Zcu (gr.out.trans (HB.out.mono gr.out.size)) o3));clear hg h9 g3 hS k9 HG hI hC hD kd hH HZ cQ gY gr HB;go_wp2_with fail;refine hA.out.mono ?_;rintro y w4 ⟨av,al,ac,rfl,ht,hh,o4,m4,V4,gC,ha,hL,hf,-⟩;have h5:=Hd (gv.out.go (Wt':=SufW q.plan) hf gv.out.b2 (by show m4.waits <:+ q.plan;rw[ha];exact gv.out.st) gC)
       by_cases h0:g=0
       ·subst h0;have hr:=litsR_zero h6.out;have hQ:=hh (by first|rfl|trivial);obtain⟨tb,tc2,e1,hM⟩:=(hG.out.chg gC).tab;injection e1 with e1 _ e3
        subst e1;subst e3
        have hT:LitsAt w4 ka ls:=hF.out.chgO gC hE.out;have k5:=Hd (refWays_any (n:=n) (cu:=tc) (cl:=kc) (by omega) hM hT hr.1 hr.2);have ke:Hid (∀ W,Below w4.heap.size w4 W->Calls prog 26 #[.slice av al ac,.int .i64 (wayV n F1 ls:Nat)] W fun e w'=>e=.returned (.bool true)/\Below W.heap.size W w'):=Hd fun W hb=>Yad (hQ.below hb) (by have:=wayV_le (n:=n) (by omega) F1 ls;omega)
        clear ht hh hQ gC ha hL hf hM hT hr gv hA hG hF hE h6;go_wp2_with fail;refine k5.out.mono ?_;rintro y w5 ⟨rfl,ga⟩;have kb:=Hd (h5.out.below ga);have kg:=Hd (ke.out w5 ga);clear ga k5 ke h5;go_wp2_with fail;refine kg.out.mono ?_;rintro y w6 ⟨rfl,hZ⟩;have gM:=Hd (kb.out.below hZ);clear hZ kg kb;have g8:=gM;clear gM;obtain⟨bk,gg⟩:∃ bk:Bool,bk=true↔known (two++hs) no:=by
         by_cases hk:known (two++hs) no
         . exact⟨true,by simp[hk]⟩
         . exact⟨false,by simp[hk]⟩
        have gi:=Hd (Zr3 g8.out.sat no gg);have g2:Hid (Below w.heap.size w w6):=Hd (gw.out.trans (g8.out.below0.mono gw.out.size));cases bk with
        | true =>
          have g1:=Hd (Zk6 w6);clear gg g8;go_wp2_with fail;refine gi.out.mono ?_;rintro y w' ⟨rfl,rfl⟩;clear gi;go_wp2_with fail;refine g1.out.mono ?_;rintro y wn ⟨rfl,g6⟩;have gq:=Hd (g2.out.trans (g6.mono g2.out.size));clear g6 g1 g2;go_wp2_with fail;go_ret;exact⟨rfl,gq.out⟩
        | false =>
          have g3:¬ known (two++hs) no:=fun e=>by have:=gg.2 e;cases this
          obtain⟨wa,gm⟩:∃ wa,wa=w6.alloc (.cells #[.int .i64 (-1)] 3):=⟨_,rfl⟩;have gH:Hid (_=wa):=Hd gm.symm;have g7:Below w6.heap.size w6 wa:=by rw[gm];exact Zaf _ _
          have gf:=g8.out.below g7;have gT:=Hd (satcCount_bad gf.sat g3 (some ⟨w6.heap.size,0,none⟩) 1 1);have gS:=Hd (satcShare_bad gf.sat g3);obtain⟨wb2,gc⟩:∃ wb2,wb2=wa.alloc (.cells #[.int .i64 (-1),.bool false] 44):=⟨_,rfl⟩;have gp:Hid (_=wb2):=Hd gc.symm;have gh:Below wa.heap.size wa wb2:=by rw[gc];exact Zaf _ _
          have gB:=gf.below gh;have gR:=Hd (satcWays_bad gB.sat g3 (some ⟨wa.heap.size,0,none⟩) 1 1);obtain⟨wc,gl⟩:∃ wc,wc=wb2.alloc (.cells #[.int .i64 (-1)] 3):=⟨_,rfl⟩;have gG:Hid (_=wc):=Hd gl.symm;have gE:Below wb2.heap.size wb2 wc:=by rw[gl];exact Zaf _ _
          have gQ:=Hd (satcCount_nil wc no (some ⟨wb2.heap.size,0,none⟩) 1 1);have g1:=Hd (Zk6 wc);have gd:Hid (Below w.heap.size w wc):=Hd (g2.out.trans (((g7.trans (gh.mono g7.size)).trans (gE.mono (Nat.le_trans g7.size gh.size))).mono g2.out.size));clear gg g3 g7 gh gE gf gB gm gc gl g8 g2;go_wp2_with fail;refine gi.out.mono ?_;rintro y w' ⟨rfl,rfl⟩;clear gi;go_wp2_with fail;rw[gH.out];refine gT.out.mono ?_;rintro y w' ⟨rfl,rfl⟩;clear gT gH;go_wp2_with fail;refine gS.out.mono ?_;rintro y w' ⟨rfl,rfl⟩;clear gS;go_wp2_with fail;rw[gp.out];refine gR.out.mono ?_;rintro y w' ⟨rfl,rfl⟩;clear gR gp;go_wp2_with fail;rw[gG.out];refine gQ.out.mono ?_;rintro y w' ⟨rfl,rfl⟩;clear gQ gG;go_wp2_with fail;refine g1.out.mono ?_;rintro y wn ⟨rfl,g6⟩;have gq:=Hd (gd.out.trans (g6.mono gd.out.size));clear g6 g1 gd;go_wp2_with fail;go_ret;exact⟨rfl,gq.out⟩
       ·have kt:=ht h0;subst kt;have gM:=h5;clear ht hh gC ha hL hf gv hA hG hF hE h6 h5;have g8:=gM;clear gM;obtain⟨bk,gg⟩:∃ bk:Bool,bk=true↔known (two++hs) no:=by
         by_cases hk:known (two++hs) no
         . exact⟨true,by simp[hk]⟩
         . exact⟨false,by simp[hk]⟩
        have gi:=Hd (Zr3 g8.out.sat no gg);have g2:Hid (Below w.heap.size w w4):=Hd (gw.out.trans (g8.out.below0.mono gw.out.size));cases bk with
        | true =>
          have g1:=Hd (Zk6 w4);clear gg g8;go_wp2_with fail;refine gi.out.mono ?_;rintro y w' ⟨rfl,rfl⟩;clear gi;go_wp2_with fail;refine g1.out.mono ?_;rintro y wn ⟨rfl,g6⟩;have gq:=Hd (g2.out.trans (g6.mono g2.out.size));clear g6 g1 g2;go_wp2_with fail;go_ret;exact⟨rfl,gq.out⟩
        | false =>
          have g3:¬ known (two++hs) no:=fun e=>by have:=gg.2 e;cases this
          obtain⟨wa,gm⟩:∃ wa,wa=w4.alloc (.cells #[.int .i64 (-1)] 3):=⟨_,rfl⟩;have gH:Hid (_=wa):=Hd gm.symm;have g7:Below w4.heap.size w4 wa:=by rw[gm];exact Zaf _ _
          have gf:=g8.out.below g7;have gT:=Hd (satcCount_bad gf.sat g3 (some ⟨w4.heap.size,0,none⟩) 1 1);have gS:=Hd (satcShare_bad gf.sat g3);obtain⟨wb2,gc⟩:∃ wb2,wb2=wa.alloc (.cells #[.int .i64 (-1),.bool false] 44):=⟨_,rfl⟩;have gp:Hid (_=wb2):=Hd gc.symm;have gh:Below wa.heap.size wa wb2:=by rw[gc];exact Zaf _ _
          have gB:=gf.below gh;have gR:=Hd (satcWays_bad gB.sat g3 (some ⟨wa.heap.size,0,none⟩) 1 1);obtain⟨wc,gl⟩:∃ wc,wc=wb2.alloc (.cells #[.int .i64 (-1)] 3):=⟨_,rfl⟩;have gG:Hid (_=wc):=Hd gl.symm;have gE:Below wb2.heap.size wb2 wc:=by rw[gl];exact Zaf _ _
          have gQ:=Hd (satcCount_nil wc no (some ⟨wb2.heap.size,0,none⟩) 1 1);have g1:=Hd (Zk6 wc);have gd:Hid (Below w.heap.size w wc):=Hd (g2.out.trans (((g7.trans (gh.mono g7.size)).trans (gE.mono (Nat.le_trans g7.size gh.size))).mono g2.out.size));clear gg g3 g7 gh gE gf gB gm gc gl g8 g2;go_wp2_with fail;refine gi.out.mono ?_;rintro y w' ⟨rfl,rfl⟩;clear gi;go_wp2_with fail;rw[gH.out];refine gT.out.mono ?_;rintro y w' ⟨rfl,rfl⟩;clear gT gH;go_wp2_with fail;refine gS.out.mono ?_;rintro y w' ⟨rfl,rfl⟩;clear gS;go_wp2_with fail;rw[gp.out];refine gR.out.mono ?_;rintro y w' ⟨rfl,rfl⟩;clear gR gp;go_wp2_with fail;rw[gG.out];refine gQ.out.mono ?_;rintro y w' ⟨rfl,rfl⟩;clear gQ gG;go_wp2_with fail;refine g1.out.mono ?_;rintro y wn ⟨rfl,g6⟩;have gq:=Hd (gd.out.trans (g6.mono gd.out.size));clear g6 g1 gd;go_wp2_with fail;go_ret;exact⟨rfl,gq.out⟩
end Go.Proofs.YtgmbklaolcmljaaGreat
