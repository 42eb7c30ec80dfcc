/- The walk of a law: RefusesOW. -/
import Derived.Test.YtmofaapnkidioaaGreatF8
set_option linter.unusedSimpArgs false
set_option linter.unusedVariables false
set_option linter.unusedSectionVars false
set_option linter.unnecessarySimpa false
set_option maxRecDepth 100000
set_option maxHeartbeats 8000000
namespace Go.Proofs.YtmofaapnkidioaaGreat
open Go.RowKit
theorem refusesO_walk (q:AskD) (ao ae ap:Option Addr) (co ce cp:Nat) (zo:Nat) (hzo:zo<256) (za:Option Addr) (zc:Nat) (zs:List Int) (w:World) (h:AskAt w q ao ae ap) (hzs:Za4 w za zs) (hzb:∀ x,za=some x->x.block<w.heap.size) :
 Calls Tryz.prog 11 #[askV q ao ae ap co ce cp,.int .u8 zo,.slice za zs.length zc] w fun y w'=>y=.returned (.bool true)/\Below w.heap.size w w':=by
 have HSM:Hid (∀ W,Below w.heap.size w W->∀ u,u=askV q ao ae ap co ce cp->Calls Tryz.prog 15 #[u] W fun y w'=>∃ b,y=.returned (.bool b)/\(b=true->Zld q)/\Below W.heap.size W w'):=Hd fun W hb u hu=>by subst hu;exact Zvq q ao ae ap co ce cp W (h.below hb)
 have HST:Hid (∀ W n,Below w.heap.size w W->Zld q->q.vars=(n:Nat)->∀ u,u=askV q ao ae ap co ce cp->Calls Tryz.prog 17 #[u] W (SetP Zhy q n W)):=Hd fun W n hb hs hn u hu=>by subst hu;exact Zvo Zek q ao ae ap co ce cp W (h.below hb) hs n hn
 obtain⟨vars,hvars⟩:∃ z,z=q.vars:=⟨_,rfl⟩;have HV:=Hd hvars;obtain⟨plen,hplen⟩:∃ z,z=q.plan.length:=⟨_,rfl⟩;unfold askV at HSM HST ⊢;rw[<- hvars,<- hplen] at HSM HST ⊢;obtain⟨olen,holen⟩:∃ z,z=q.order.length:=⟨_,rfl⟩;obtain⟨elen,helen⟩:∃ z,z=q.es.length:=⟨_,rfl⟩;rw[<- holen,<- helen] at HSM HST ⊢;obtain⟨w1,hw1⟩:∃ w1,w1=w.alloc (.cells #[.int .i64 vars,.slice ao olen co,.slice ae elen ce,.slice ap plen cp] 26):=⟨_,rfl⟩;have HW1:Hid (_=w1):=Hd hw1.symm;have HB1:Hid (Below w.heap.size w w1):=by rw[hw1];exact Hd (Zad _ _)
 have hblk:w1.heap[w.heap.size]?=some (.cells #[.int .i64 vars,.slice ao olen co,.slice ae elen ce,.slice ap plen cp] 26 (0,0)):=by rw[hw1];exact heap_alloc_new _ _
 have d0:w1.cell? ⟨w.heap.size,0,none⟩=some (.int .i64 vars):=by rw[cell_of_row _ _ 0 _ _ _ hblk];rfl
 have d1:w1.cell? ⟨w.heap.size,1,none⟩=some (.slice ao olen co):=by rw[cell_of_row _ _ 1 _ _ _ hblk];rfl
 have d2:w1.cell? ⟨w.heap.size,2,none⟩=some (.slice ae elen ce):=by rw[cell_of_row _ _ 2 _ _ _ hblk];rfl
 have d3:w1.cell? ⟨w.heap.size,3,none⟩=some (.slice ap plen cp):=by rw[cell_of_row _ _ 3 _ _ _ hblk];rfl
 have HZS:=Hd hzs;have HZB:=Hd hzb;have hzsl:=hzs.len;clear h hw1 hblk hvars hplen holen helen hzs hzb
 go_enter Tryz.func11,Tryz.ntmps11
 go_upto_region 1 with fail;rw[HW1.out];go_wp2_with fail;refine(HSM.out _ HB1.out _ rfl).mono ?_;rintro y w2 ⟨b,rfl,hb,hbel⟩;have HB:=Hd hb;have HBEL:=Hd (HB1.out.trans (hbel.mono HB1.out.size));have e0:=(hbel.cell (p:=⟨w.heap.size,0,none⟩) (Zaa d0)).trans d0;have e1:=(hbel.cell (p:=⟨w.heap.size,1,none⟩) (Zaa d1)).trans d1;have e2:=(hbel.cell (p:=⟨w.heap.size,2,none⟩) (Zaa d2)).trans d2;have e3:=(hbel.cell (p:=⟨w.heap.size,3,none⟩) (Zaa d3)).trans d3;have HLV:=Hd (Zel w2);clear hb hbel HSM d0 d1 d2 d3 HW1;cases b with
 | false =>
   go_wp2_with fail;refine HLV.out.mono ?_;rintro y w3 ⟨rfl,hb3⟩;have HB3:=Hd (HBEL.out.trans (hb3.mono HBEL.out.size));clear hb3;go_wp2_with fail;go_ret;exact⟨rfl,HB3.out⟩
 | true =>
   by_cases hlen:(zs.length:Int)>8
   ·
    go_wp2_with fail;refine HLV.out.mono ?_;rintro y w3 ⟨rfl,hb3⟩;have HB3:=Hd (HBEL.out.trans (hb3.mono HBEL.out.size));clear hb3;go_wp2_with fail;go_ret;exact⟨rfl,HB3.out⟩
   have HSP:=Hd (HB.out (by first|rfl|trivial));obtain⟨n,hn⟩:∃ n:Nat,vars=(n:Nat):=⟨vars.toNat,by have:=HSP.out.lo;have:=HV.out;omega⟩;subst hn;have hn6:n<=6:=by have:=HSP.out.hi;have:=HV.out;omega
   have hn1:1<=n:=by have:=HSP.out.lo;have:=HV.out;omega
   have hes:q.es.length<=5:=HSP.out.es;have HSET:=Hd (HST.out w2 n HBEL.out HSP.out rfl _ rfl);clear HST HLV HB;go_wp2_with fail;refine HSET.out.mono ?_;rintro y w3 ⟨mb,vl,vx,wb,hs,nx,rfl,hbw,hsnd,hnx,o3,m3,V3,lt3,-⟩;have hhl:hs.length<=5:=by have:=congrArg List.length hsnd;simp at this;omega
   obtain⟨al,cl,hvl⟩:∃ a c,vl=.slice a hs.length c:=by
    obtain⟨a,c,e,_⟩:=lt3.l.own.slice;exact⟨a,c,by rw[e];simp[Zbh]⟩
   subst hvl;have HSUB:Hid (∀ p∈hs,p∈two++hs):=Hd fun p hp=>List.mem_append_right _ hp
   have hfl:(two++hs).length=2+hs.length:=by simp[two];omega
   have HROOM:Hid (∀ k,k<=192->k*2^n<=Zcd n):=Hd fun k hk=>Zhl hk
   have HCB:Hid (wb.cell? ⟨w.heap.size,0,none⟩=some (.int .i64 (n:Nat))):=Hd ((hbw.cell (p:=⟨w.heap.size,0,none⟩) (Zaa e0)).trans e0);have c0:=(lt3.below0.cell (p:=⟨w.heap.size,0,none⟩) (Zaa ((hbw.cell (p:=⟨w.heap.size,0,none⟩) (Zaa e0)).trans e0))).trans ((hbw.cell (p:=⟨w.heap.size,0,none⟩) (Zaa e0)).trans e0);have HBB:Hid (Below w.heap.size w wb):=Hd (HBEL.out.trans (hbw.mono HBEL.out.size));have HRG:Hid (∀ p∈two++hs,p.1<nx):=Hd fun p hp=>(lt3.sat.range p hp).2
   have HL:=Hd ((lt3.withOd (Od':=fun _=>True) trivial).withSt (Wt':=SufW q.plan) (by rw[lt3.st.1];exact List.suffix_refl _));clear lt3 hbw hsnd HSET e0 e1 e2 e3;have h8:zs.length<=8:=by omega
   obtain⟨j,hj,hrem⟩:=rem3 zo;have hcv:=conv_u8 hzo;have HS:Hid (StF Zhy n (Zcd n) wb mb (two++hs) nx q.plan [] w3):=Hd (StF.of HL.out.st HL.out.sat (by simp));have HZB2:Hid (∀ x,za=some x->x.block<wb.heap.size):=Hd fun x hx=>Nat.lt_of_lt_of_le (HZB.out x hx) HBB.out.size
   have HBW:Hid (Below w.heap.size w w3):=Hd (HBB.out.trans (HL.out.below0.mono HBB.out.size));have HZX:=Hd (HZS.out.below HBW.out);obtain⟨wX,hwX⟩:∃ W,W=w3:=⟨_,rfl⟩;rw[<- hwX] at HS HBW HZX ⊢;have HWX:=Hd hwX;clear c0 HL hwX;go_wp2_with fail
   go_loopw [11,12] (fun s11 s12 wr=>∃ (i:Nat) (e:Int),i<=zs.length/\s12=.int .i64 i/\s11=.int .i64 e/\wr=wX/\Hid ((e=0/\∀ q,q<i->known (two++hs) (at0 zs q))\/(e=8/\∃ q,q<i/\¬ known (two++hs) (at0 zs q)))) (fun _ s12 _=>zs.length-(intOf s12).toNat)
   case atStart=>exact⟨0,0,Nat.zero_le _,rfl,rfl,rfl,Hd (.inl ⟨rfl,fun q hq=>by omega⟩)⟩
   case round =>
    obtain⟨i,e,hi,rfl,rfl,rfl,HE⟩:=hrel
    by_cases hlt:i<zs.length
    ·
     have hiz:(i:Int)<(zs.length:Int):=by omega
     obtain⟨b,off,hza,ck⟩:=HZX.out.cells i hlt;obtain⟨z,hz⟩:∃ z,z=at0 zs i:=⟨_,rfl⟩;rw[<- hz] at ck;obtain⟨bq,hbq⟩:=bool_iff (known (two++hs) z);have HIS:=Hd (HS.out.known_is z hbq)
     have HNEXT:Hid ((bq=true->(e=0/\∀ q,q<i+1->known (two++hs) (at0 zs q))\/(e=8/\∃ q,q<i+1/\¬ known (two++hs) (at0 zs q)))/\(bq=false->∃ q,q<i+1/\¬ known (two++hs) (at0 zs q))):=Hd (by
      refine⟨fun h1=>?_,fun h1=>⟨i,by omega,fun h2=>?_⟩⟩
      ·
       rcases HE.out with ⟨h3,h4⟩|⟨h3,q,h4,h5⟩
       ·
        refine .inl ⟨h3,fun q hq=>?_⟩;rcases Nat.lt_or_ge q i with c|c
        ·
         exact h4 q c
        ·
         obtain rfl:q=i:=by omega
         rw[<- hz];exact hbq.1 h1
       ·
        exact .inr ⟨h3,q,by omega,h5⟩
      ·
       rw[<- hz] at h2;rw[hbq.2 h2] at h1;cases h1)
     subst hza;clear hz HE hbq;cases bq with
     | true =>
       have HN:=Hd (HNEXT.out.1 rfl);clear HNEXT;go_wp2_with fail;refine HIS.out.mono ?_;rintro y w' ⟨rfl,rfl⟩;go_wp2_with fail;go_roundw
       case rel=>exact⟨i+1,e,by omega,by go_num,rfl,by trivial,HN⟩
       case measure=>simp[intOf];omega
     | false =>
       have HN:=Hd (HNEXT.out.2 rfl);clear HNEXT;go_wp2_with fail;refine HIS.out.mono ?_;rintro y w' ⟨rfl,rfl⟩;go_wp2_with fail;go_roundw
       case rel=>exact⟨i+1,8,by omega,by go_num,rfl,by trivial,Hd (.inr ⟨rfl,HN.out⟩)⟩
       case measure=>simp[intOf];omega
    ·
     obtain rfl:i=zs.length:=by omega
     have hiz:¬ (zs.length:Int)<(zs.length:Int):=by omega
     have hJ:∃ hh:Int,Calls Tryz.prog 49 #[.pointer (some ⟨mb,0,none⟩),.int .i64 j,.slice za zs.length zc] wr fun x w'=>x=.returned (.tuple #[.int .i64 hh,.int .i64 e])/\((e=0/\∃ G,StF Zhy n (Zcd n) wb mb (two++hs++[(hh,G)]) (nx+1) q.plan [] w')\/(e=8/\hh=0/\StF Zhy n (Zcd n) wb mb (two++hs) nx q.plan [] w')):=by
      rcases HE.out with ⟨rfl,hall⟩|⟨rfl,qb,hqb,hbad⟩
      ·
       obtain⟨Fs,hFl,hFm⟩:=known_all hall;exact⟨nx,(HS.out.join_ok Zek hj (c:=zc) HZX.out HZB2.out hFl hFm (by omega) (Zxf (l:=(two++hs).length) (r:=8) (by omega) (Nat.mul_le_mul (by omega) (Nat.sub_le _ _)))).mono fun x w' ⟨h1,h2⟩=>⟨h1,.inl ⟨rfl,_,h2⟩⟩⟩
      ·
       exact⟨0,(HS.out.join_no Zek hj (c:=zc) HZX.out HZB2.out ⟨qb,hqb,hbad⟩ (by omega) (Zxf (l:=(two++hs).length) (r:=8) (by omega) (Nat.mul_le_mul (by omega) (Nat.sub_le _ _)))).mono fun x w' ⟨h1,h2⟩=>⟨h1,.inr ⟨rfl,rfl,h2⟩⟩⟩
     obtain⟨hh,hJ⟩:=hJ;have HJ:=Hd hJ;clear hJ HE HS HBW;go_wp2_with fail;refine HJ.out.mono ?_;rintro y w5 ⟨rfl,hst⟩;have HST:=Hd hst;clear hst HJ;go_upto_region 13 with fail
     go_cut [76] (fun s76 wx=>s76=.bool false/\Hid (w5=wx))
     case first =>
      rcases HST.out with ⟨rfl,_⟩|⟨rfl,rfl,_⟩
      all_goals
       go_wp2_with fail;go_meet
       case rel=>exact⟨rfl,Hd rfl⟩
     case rest =>
     obtain⟨rfl,HW5⟩:=hcut;have hwx:=HW5.out;subst hwx;clear HW5;go_upto_region 15 with fail
     go_cut [85] (fun s85 wx=>s85=.bool false/\Hid (∃ NX:Int,NX<=nx+1/\StF Zhy n (Zcd n) wb mb (two++hs) NX q.plan [] wx))
     case first =>
      rcases HST.out with ⟨rfl,G,hst⟩|⟨rfl,rfl,hst⟩
      ·
       have HDR:=Hd (hst.drop_last Zek (Zyh.app _) (by omega));clear hst HST;go_wp2_with fail;refine HDR.out.mono ?_;rintro y w6 ⟨rfl,hst⟩;have HS6:=Hd (show ∃ NX:Int,NX<=nx+1/\StF Zhy n (Zcd n) wb mb (two++hs) NX q.plan [] w6 from ⟨_,Int.le_refl _,hst⟩);clear hst HDR;go_wp2_with fail;go_meet
       case rel=>exact⟨rfl,HS6⟩
      ·
       have HS6:=Hd (show ∃ NX:Int,NX<=nx+1/\StF Zhy n (Zcd n) wb mb (two++hs) NX q.plan [] w5 from ⟨_,by omega,hst⟩);clear hst HST;go_wp2_with fail;go_meet
       case rel=>exact⟨rfl,HS6⟩
     case rest =>
     obtain⟨rfl,HS6⟩:=hcut;clear HST
     rename World=>w6
     obtain⟨NX,hNX,hs6⟩:=HS6.out;have HS:=Hd hs6;have HBW:Hid (Below w.heap.size w w6):=Hd (HBB.out.trans (hs6.below0.mono HBB.out.size));clear hs6 HS6
     go_upto_if 88 with fail
     go_cut [7] (fun s7 wx=>s7=.pointer (some ⟨mb,0,none⟩)/\Hid (∃ NX:Int,StF Zhy n (Zcd n) wb mb (two++hs) NX q.plan [] wx))
     case first =>
      by_cases htwo:(zs.length:Int)>1
      ·
       have htwo2:1<zs.length:=by omega
       obtain⟨zb,zo2,hza,z1⟩:=HZS.out.cells 0 (by omega);obtain⟨zb',zo2',hza',z2⟩:=HZS.out.cells 1 (by omega);rw[hza] at hza';injection hza' with e1
       injection e1 with e1 e2
       subst e1;subst e2;rw[Nat.add_zero] at z1;have hl0:(0:Int)<(zs.length:Int):=by omega
       have hl0n:0<zs.length:=by omega
       have zw1:=(HBW.out.cell (p:=⟨zb,zo2,none⟩) (Zaa z1)).trans z1;have zw2:=(HBW.out.cell (p:=⟨zb,zo2+1,none⟩) (Zaa z2)).trans z2;obtain⟨k0,hk0⟩:∃ k,k=at0 zs 0:=⟨_,rfl⟩;obtain⟨k1,hk1⟩:∃ k,k=at0 zs 1:=⟨_,rfl⟩;rw[<- hk0] at z1 zw1;rw[<- hk1] at z2 zw2;subst hza;clear hk0 hk1;obtain⟨b0,hb0⟩:=bool_iff (known (two++hs) k0);obtain⟨b1,hb1⟩:=bool_iff (known (two++hs) k1);have HI0:=Hd (HS.out.known_is k0 hb0);have HI1:=Hd (HS.out.known_is k1 hb1);obtain⟨bad,hbd⟩:∃ bad:Bool,bad=(!b0 || !b1):=⟨_,rfl⟩
       have HBD:Hid ((bad=true->¬ known (two++hs) k0\/¬ known (two++hs) k1)/\(bad=false->known (two++hs) k0/\known (two++hs) k1)):=Hd (by
        rw[<- hb0,<- hb1,hbd];cases b0<;>cases b1<;>simp)
       have HBE:=Hd hbd;clear hb0 hb1 hbd;go_upto_region 18 with fail
       go_cut [15] (fun s15 wx=>s15=.bool bad/\Hid (w6=wx))
       case first =>
        cases b0 with
        | false =>
          go_wp2_with fail;refine HI0.out.mono ?_;rintro y w' ⟨rfl,rfl⟩;go_wp2_with fail;go_meet
          case rel=>exact⟨by rw[HBE.out];rfl,Hd rfl⟩
        | true =>
          cases b1 with
          | false =>
            go_wp2_with fail;refine HI0.out.mono ?_;rintro y w' ⟨rfl,rfl⟩;go_wp2_with fail;refine HI1.out.mono ?_;rintro y w' ⟨rfl,rfl⟩;go_wp2_with fail;go_meet
            case rel=>exact⟨by rw[HBE.out];rfl,Hd rfl⟩
          | true =>
            go_wp2_with fail;refine HI0.out.mono ?_;rintro y w' ⟨rfl,rfl⟩;go_wp2_with fail;refine HI1.out.mono ?_;rintro y w' ⟨rfl,rfl⟩;go_wp2_with fail;go_meet
            case rel=>exact⟨by rw[HBE.out];rfl,Hd rfl⟩
       case rest =>
       obtain⟨rfl,HW6⟩:=hcut;have hwx:=HW6.out;subst hwx;clear HW6 HI0 HI1 HBE zw1 zw2;obtain⟨cc,hcc⟩:∃ cc:Int,(bad=true/\cc=8)\/(bad=false/\cc=0):=by
        cases bad
        ·
         exact⟨0,.inr ⟨rfl,rfl⟩⟩
        ·
         exact⟨8,.inl ⟨rfl,rfl⟩⟩
       have hC:∃ (g:Int) (fs9:List (Int×BF)) (N9:Int),N9<=NX+1/\fs9.length<=(two++hs).length+1/\(∀ k,known (two++hs) k->known fs9 k)/\((bad=true/\fs9=two++hs)\/(bad=false/\∃ F9,fs9=two++hs++[(g,F9)]))/\Calls Tryz.prog 51 #[.pointer (some ⟨mb,0,none⟩),.int .i64 j,.int .i64 k0,.int .i64 k1] w6.drew fun x w'=>x=.returned (.tuple #[.int .i64 g,.int .i64 cc])/\StF Zhy n (Zcd n) wb mb fs9 N9 q.plan [] w':=by
        rcases hcc with ⟨h1,rfl⟩|⟨h1,rfl⟩
        ·
         exact⟨0,_,NX,by omega,by omega,fun _ h=>h,.inl ⟨h1,rfl⟩,(HS.out.below (Zai w6 1)).two_no Zek hj (HBD.out.1 h1) (by omega) (Nat.le_trans (Nat.mul_le_mul_right _ (show (two++hs).length<=192 by omega)) (HROOM.out _ (Nat.le_refl _)))⟩
        ·
         obtain⟨q1,q2⟩:=HBD.out.2 h1;obtain⟨F9,hF⟩:=(HS.out.below (Zai w6 1)).two_ok Zek hj q1 q2 (by omega) (Zxf (l:=(two++hs).length) (r:=1) (by omega) (by omega));exact⟨NX,_,NX+1,by omega,by simp<;>omega,fun k ⟨F,h⟩=>⟨F,List.mem_append_left _ h⟩,.inr ⟨h1,F9,rfl⟩,hF⟩
       obtain⟨g,fs9,N9,hN9,hf9,hkn,hcs,hC⟩:=hC;have HKN:=Hd hkn;have HCS:=Hd hcs;have HCC:=Hd hcc;have HC:=Hd hC;have HWI:Hid (∀ W,StF Zhy n (Zcd n) wb mb fs9 N9 q.plan [] W->∃ b:Bool,Calls Tryz.prog 52 #[.pointer (some ⟨mb,0,none⟩),.int .i64 k0,.int .i64 k1] W fun x w'=>x=.returned (.tuple #[.bool b,.int .i64 cc])/\StF Zhy n (Zcd n) wb mb fs9 N9 q.plan [] w'):=Hd fun W hW=>by
        rcases HCC.out with ⟨h1,rfl⟩|⟨h1,rfl⟩
        ·
         refine⟨false,hW.within_no ?_⟩;rcases HCS.out with ⟨_,rfl⟩|⟨h2,_⟩
         ·
          exact HBD.out.1 h1
         ·
          rw[h1] at h2;cases h2
        ·
         exact hW.within_ok Zek (HKN.out _ (HBD.out.2 h1).1) (HKN.out _ (HBD.out.2 h1).2) (by omega) (Zxf (l:=fs9.length) (r:=1) (by omega) (by omega))
       have HME:Hid (∀ W,StF Zhy n (Zcd n) wb mb fs9 N9 q.plan [] W->∃ b:Bool,Calls Tryz.prog 53 #[.pointer (some ⟨mb,0,none⟩),.int .i64 k0,.int .i64 k1] W fun x w'=>x=.returned (.tuple #[.bool b,.int .i64 cc])/\StF Zhy n (Zcd n) wb mb fs9 N9 q.plan [] w'):=Hd fun W hW=>by
        rcases HCC.out with ⟨h1,rfl⟩|⟨h1,rfl⟩
        ·
         refine⟨false,hW.meets_no ?_⟩;rcases HCS.out with ⟨_,rfl⟩|⟨h2,_⟩
         ·
          exact HBD.out.1 h1
         ·
          rw[h1] at h2;cases h2
        ·
         exact hW.meets_ok Zek (HKN.out _ (HBD.out.2 h1).1) (HKN.out _ (HBD.out.2 h1).2) (by omega) (Zxf (l:=fs9.length) (r:=1) (by omega) (by omega))
       clear hC hcs hkn hcc HS HBD HKN;go_upto_region 19 with fail;refine Zh5 [0,1,2,3,4,5,6,7,8,9,10,11,12,13,14,15] (fun W=>Below w.heap.size w W) (fun ch w'=>False) (fun c a w hd h=>h.elim) (by kernel_rfl) ((HBW.out.trans ((Zai w6 1).mono HBW.out.size))) ?_
       iterate 10
        refine Ze3 rfl rfl (by kernel_rfl) ?_;apply Exists.intro;refine⟨fun w' hw=>?_,?_⟩
        ·
         have q1:=(hw.cell (p:=⟨zb,zo2,none⟩) (Zaa z1)).trans z1;have q2:=(hw.cell (p:=⟨zb,zo2+1,none⟩) (Zaa z2)).trans z2;go_simp;rfl
        simp only[Zah]
       refine Zw5 (R1:=fun v w'=>v=.tuple #[.int .i64 g,.int .i64 cc]/\StF Zhy n (Zcd n) wb mb fs9 N9 q.plan [] w') rfl (by kernel_rfl) rfl rfl (by go_simp) (HC.out.mono fun e w' ⟨h1,h2⟩=>⟨_,h1,rfl,h2⟩) (fun v w' ⟨_,h⟩=>HBB.out.trans (h.below0.mono HBB.out.size)) ?_;rintro v wT-⟨rfl,hst⟩;have HS:=Hd hst;have HBW:Hid (Below w.heap.size w wT):=Hd (HBB.out.trans (hst.below0.mono HBB.out.size));clear hst HC;simp only[Zah]
       iterate 5
        refine Ze3 rfl rfl (by kernel_rfl) ?_;apply Exists.intro;refine⟨fun w' hw=>?_,?_⟩
        ·
         go_simp;rfl
        simp only[Zah]
       refine Zok (by kernel_rfl) ?_;obtain⟨bw,hc⟩:=HWI.out _ (HS.out.below (Zai wT 1));have HC:=Hd hc;clear hc HS HWI;go_upto_region 20 with fail;refine Zh5 [0,1,2,3,4,5,6,7,8,9,10,11,12] (fun W=>Below w.heap.size w W) (fun ch w'=>False) (fun c a w hd h=>h.elim) (by kernel_rfl) ((HBW.out.trans ((Zai wT 1).mono HBW.out.size))) ?_
       iterate 7
        refine Ze3 rfl rfl (by kernel_rfl) ?_;apply Exists.intro;refine⟨fun w' hw=>?_,?_⟩
        ·
         have q1:=(hw.cell (p:=⟨zb,zo2,none⟩) (Zaa z1)).trans z1;have q2:=(hw.cell (p:=⟨zb,zo2+1,none⟩) (Zaa z2)).trans z2;go_simp;rfl
        simp only[Zah]
       refine Zw5 (R1:=fun v w'=>v=.tuple #[.bool bw,.int .i64 cc]/\StF Zhy n (Zcd n) wb mb fs9 N9 q.plan [] w') rfl (by kernel_rfl) rfl rfl (by go_simp) (HC.out.mono fun e w' ⟨h1,h2⟩=>⟨_,h1,rfl,h2⟩) (fun v w' ⟨_,h⟩=>HBB.out.trans (h.below0.mono HBB.out.size)) ?_;rintro v wU-⟨rfl,hst⟩;have HS:=Hd hst;have HBW:Hid (Below w.heap.size w wU):=Hd (HBB.out.trans (hst.below0.mono HBB.out.size));clear hst HC;simp only[Zah]
       iterate 5
        refine Ze3 rfl rfl (by kernel_rfl) ?_;apply Exists.intro;refine⟨fun w' hw=>?_,?_⟩
        ·
         go_simp;rfl
        simp only[Zah]
       refine Zok (by kernel_rfl) ?_;obtain⟨bm,hc⟩:=HME.out _ (HS.out.below (Zai wU 1));have HC:=Hd hc;clear hc HS HME;go_upto_region 21 with fail;refine Zh5 [0,1,2,3,4,5,6,7,8,9,10,11,12] (fun W=>Below w.heap.size w W) (fun ch w'=>False) (fun c a w hd h=>h.elim) (by kernel_rfl) ((HBW.out.trans ((Zai wU 1).mono HBW.out.size))) ?_
       iterate 7
        refine Ze3 rfl rfl (by kernel_rfl) ?_;apply Exists.intro;refine⟨fun w' hw=>?_,?_⟩
        ·
         have q1:=(hw.cell (p:=⟨zb,zo2,none⟩) (Zaa z1)).trans z1;have q2:=(hw.cell (p:=⟨zb,zo2+1,none⟩) (Zaa z2)).trans z2;go_simp;rfl
        simp only[Zah]
       refine Zw5 (R1:=fun v w'=>v=.tuple #[.bool bm,.int .i64 cc]/\StF Zhy n (Zcd n) wb mb fs9 N9 q.plan [] w') rfl (by kernel_rfl) rfl rfl (by go_simp) (HC.out.mono fun e w' ⟨h1,h2⟩=>⟨_,h1,rfl,h2⟩) (fun v w' ⟨_,h⟩=>HBB.out.trans (h.below0.mono HBB.out.size)) ?_;rintro v wV-⟨rfl,hst⟩;have HS:=Hd hst;have HBW:Hid (Below w.heap.size w wV):=Hd (HBB.out.trans (hst.below0.mono HBB.out.size));clear hst HC;simp only[Zah]
       iterate 5
        refine Ze3 rfl rfl (by kernel_rfl) ?_;apply Exists.intro;refine⟨fun w' hw=>?_,?_⟩
        ·
         go_simp;rfl
        simp only[Zah]
       refine Zok (by kernel_rfl) ?_;clear z1 z2;rcases HCS.out with ⟨hb9,hf⟩|⟨hb9,F9,hf⟩
       ·
        obtain rfl:cc=8:=by
         rcases HCC.out with ⟨_,h⟩|⟨h,_⟩
         ·
          exact h
         ·
          rw[hb9] at h;cases h
        subst hf;subst hb9;clear HCS HCC;go_wp2_with fail;go_meet
        case rel=>exact⟨rfl,Hd ⟨_,HS.out⟩⟩
       ·
        obtain rfl:cc=0:=by
         rcases HCC.out with ⟨h,_⟩|⟨_,h⟩
         ·
          rw[hb9] at h;cases h
         ·
          exact h
        subst hf;subst hb9;have HDR:=Hd (HS.out.drop_last Zek (Zyh.app _) (by omega));clear HS HCS HCC;go_wp2_with fail;refine HDR.out.mono ?_;rintro y wX2 ⟨rfl,hst⟩;have HS:=Hd hst;clear hst HDR;go_wp2_with fail;go_meet
        case rel=>exact⟨rfl,Hd ⟨_,HS.out⟩⟩
      ·
       have htwo2:¬ 1<zs.length:=by omega
       go_wp2_with fail;go_meet
       case rel=>exact⟨rfl,Hd ⟨_,HS.out⟩⟩
     case rest =>
     obtain⟨rfl,HS7⟩:=hcut;clear HS HBW
     rename World=>w7
     obtain⟨NY,hs7⟩:=HS7.out;have HS:=Hd hs7;clear hs7 HS7;have HJN:=Hd (join14_nil (c:=zc) (n:=zs.length) (a:=za) w7 j hj);go_wp2_with fail;refine HJN.out.mono ?_;rintro y wn ⟨rfl,hbn⟩;have HSN:=Hd (HS.out.below hbn);have HON:=Hd (of_nil wn 99 0 none 0 0);clear hbn HJN HS;go_wp2_with fail;refine HON.out.mono ?_;rintro y wo ⟨rfl,hbo⟩;have HSO:=Hd (HSN.out.below hbo);have HLF:Hid (Calls Tryz.prog 30 #[.pointer (some ⟨mb,0,none⟩),.int .i64 (hs.length:Nat)] wo fun x w'=>x=.returned (.bool true)/\wo=w'):=Hd (HSO.out.left hs.length (by omega) (by rw[hfl];omega));have HBL:=Hd HSO.out.below0;clear hbo HON HSN HSO;go_wp2_with fail;refine HLF.out.mono ?_;rintro y w' ⟨rfl,rfl⟩;have HLV:=Hd (Zel wo);go_wp2_with fail;refine HLV.out.mono ?_;rintro y w11 ⟨rfl,hb11⟩;have HFN:=Hd (HBB.out.trans ((HBL.out.trans (hb11.mono HBL.out.size)).mono HBB.out.size));clear hb11 HLV;go_wp2_with fail;go_ret;exact⟨rfl,HFN.out⟩
end Go.Proofs.YtmofaapnkidioaaGreat
