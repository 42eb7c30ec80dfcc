/- More contracts of the program's functions. -/
import Derived.Test.YtgmbklaolcmljaaGreatP8
set_option linter.unusedSimpArgs false
set_option linter.unusedVariables false
set_option linter.unusedSectionVars false
set_option linter.unnecessarySimpa false
set_option maxRecDepth 100000
set_option maxHeartbeats 8000000
namespace Go.Proofs.YtgmbklaolcmljaaGreat
open Go.Proofs.Tryz
open Go.RowKit

theorem handles_any {F:Phi}{o:Own}{w:World}{mb:Nat}{m:ManD}(h:Zed F o w mb m) :
 Calls prog 81 #[.pointer (some ⟨mb,0,none⟩)] w fun x w'=>x=.returned (.int .i64 m.hs.length)/\w=w':=by
 obtain⟨s,h⟩:=h;obtain⟨c0,c1,c2,c3,c4,c5,f0⟩:=cells6 h.blk;have hl:=h.map.size (P:=prog) underlying114 3;have e:(encH m.hs).length=m.hs.length:=by simp[encH]
 rw[e] at hl;clear h e
 go_enter func81,ntmps81
 go_wp2_with fail;go_ret;exact⟨rfl,rfl⟩
open Go.RowKit
section
variable {K:Law}{n:Nat}{Od:List Nat->Prop}{room:Nat}{w0 w:World}{mb:Nat}{fs:List (Int×BF)}{nx:Int}{o:Own}{m:ManD}{V:Nat->BF}
theorem SatE.handles_any (h:SatE K n Od room w0 mb fs nx w o m V):Calls prog 81 #[.pointer (some ⟨mb,0,none⟩)] w fun x w'=>x=.returned (.int .i64 (fs.length:Nat))/\w=w':=by
 have e:fs.length=m.hs.length:=by rw[<- h.hs,List.length_map]
 rw[e];exact Go.Proofs.YtgmbklaolcmljaaGreat.handles_any h.is
theorem left_any (h:SatE K n Od room w0 mb fs nx w o m V)(q:Nat)(hq:q<=1000000) :
 Calls prog 27 #[.pointer (some ⟨mb,0,none⟩),.int .i64 q] w fun x w'=>x=.returned (.bool (decide (fs.length=q+2)))/\w=w':=by
 have HH:=Hd h.handles_any;have HF:Hid ((((fs.length:Nat):Int) == (q:Int)+2)=decide (fs.length=q+2)):=by
  refine Hd ?_
  show (((fs.length:Nat):Int) == (q:Int)+2)=_
  by_cases e:fs.length=q+2
  . rw[decide_eq_true e,beq_iff_eq];omega
  . rw[decide_eq_false e,beq_eq_false_iff_ne];omega
 clear h
 go_enter func27,ntmps27
 go_wp2_with fail;refine HH.out.mono ?_;rintro x w' ⟨rfl,rfl⟩;go_wp2_with fail;go_ret;exact⟨by rw[<- HF.out];rfl,rfl⟩
end

open Go.RowKit
theorem refShare_any {n:Nat}{F:BF}(hn:n<=16){au:Option Addr}{cu:Nat}{w:World}(h1:Zf8 w au (tabB n F)){r:Nat×Nat}(hr:r=if (tabB n F).count true=0 then (0,0) else shr n ((tabB n F).count true)) :
 Calls prog 25 #[.slice au (2^n) cu,.int .i64 (n:Nat)] w fun x w'=>x=.returned (.tuple #[.int .i64 (r.1:Nat),.int .i64 (r.2:Nat)])/\w=w':=by
 obtain⟨P,hP⟩:∃ P:Ending->World->Prop,P=fun x w'=>x=.returned (.tuple #[.int .i64 (r.1:Nat),.int .i64 (r.2:Nat)])/\w=w':=⟨_,rfl⟩
 have gb:=Hd hP;have HR:=Hd hr;have hL:=Zf2 n F;have HCK:=Hd h1.cells;obtain⟨L,g1⟩:∃ L,L=2^n:=⟨_,rfl⟩;have gk:L<=65536:=by rw[g1];exact pow64 hn
 rw[<- g1] at hL ⊢;have HL:=Hd hL;have ge:=Hd g1;rw[<- hP];have g6:Hid ((tabB n F).count true<=L):=Hd (by rw[<- hL];exact List.count_le_length);clear hP hr h1 hL g1
 go_enter func25,ntmps25
 go_wp2_with fail
 go_loopw [6,7] (fun s6 s7 wr=>∃ i cc:Nat,i<=L/\cc<=i/\s7=.int .i64 (i:Int)/\s6=.int .i64 (cc:Int)/\Hid (cc=((tabB n F).take i).count true)/\Hid (w=wr)) (fun _ s7 _=>L-(intOf s7).toNat)
 case atStart=>exact⟨0,0,Nat.zero_le _,Nat.le_refl _,rfl,rfl,Hd (by simp),Hd rfl⟩
 case round =>
  obtain⟨i,cc,hi,gd,rfl,rfl,HQ,HW⟩:=hrel;have hw:=HW.out;subst hw
  by_cases g9:i<L
  ·have gh:(i:Int)<(L:Int):=by omega
   obtain⟨b,off,rfl,ck⟩:=HCK.out i (by rw[HL.out];exact g9);have hs:=Yeg (l:=tabB n F) (i:=i) (by rw[HL.out];exact g9);rw[<- HQ.out] at hs;cases hx:(tabB n F).getD i false with
   | true =>
     rw[hx,if_pos rfl] at hs;rw[hx] at ck;have HS:=Hd hs.symm;clear hs hx HCK HQ HR g6;go_wp2_with fail;go_roundw
     case rel=>exact⟨i+1,cc+1,by omega,by omega,by rw[show ((i+1:Nat):Int)=(i:Int)+1 by omega],by rw[show ((cc+1:Nat):Int)=(cc:Int)+1 by omega],HS,Hd trivial⟩
     case measure=>simp[intOf];omega
   | false =>
     rw[hx,if_neg (by simp),Nat.add_zero] at hs;rw[hx] at ck;have HS:=Hd hs.symm;clear hs hx HCK HQ HR g6;go_wp2_with fail;go_roundw
     case rel=>exact⟨i+1,cc,by omega,by omega,by rw[show ((i+1:Nat):Int)=(i:Int)+1 by omega],rfl,HS,Hd trivial⟩
     case measure=>simp[intOf];omega
  ·obtain rfl:i=L:=by omega
   have gf:¬ (i:Int)<(i:Int):=by omega
   have hq:=HQ.out;rw[List.take_of_length_le (by rw[HL.out];exact Nat.le_refl _)] at hq;have hr:=HR.out;rw[<- hq] at hr;clear HCK HQ HR g6 hq
   by_cases hz:cc=0
   ·rw[if_pos hz] at hr;subst hz;have HF:Hid (P (.returned (.tuple #[.int .i64 0,.int .i64 0])) w):=Hd (by rw[gb.out,hr];exact⟨rfl,rfl⟩);clear hr;go_wp2_with fail
    first|exact HF.out|exact bodyPost_ret (results_tmp2 rfl _ _ _) rfl HF.out
   ·rw[if_neg hz] at hr;have gj:¬ (cc:Int)=0:=by omega
    have g5:=Hd hr;clear hr;go_wp2_with fail
    go_loopw [6,8] (fun s6 s8 wr=>∃ dd j:Nat,0<dd/\dd<=65536/\j<=n/\s6=.int .i64 (dd:Int)/\s8=.int .i64 (j:Int)/\Hid (dd<=2^j)/\Hid (r=shr j dd)/\Hid (w=wr)) (fun s6 _ _=>(intOf s6).toNat)
    case atStart=>exact⟨cc,n,by omega,by omega,Nat.le_refl _,rfl,rfl,Hd (by rw[<- ge.out];exact gd),g5,Hd rfl⟩
    case round =>
     obtain⟨dd,j,hd,gi,hj,rfl,rfl,g2,HQ,HW⟩:=hrel;have hw:=HW.out;subst hw;have g7:(dd:Int).tmod 2=((dd%2:Nat):Int):=by rw[Int.tmod_eq_emod_of_nonneg (by omega)];omega
     have g8:(dd:Int).tdiv 2=((dd/2:Nat):Int):=by rw[Int.tdiv_eq_ediv_of_nonneg (by omega)];omega
     by_cases g0:dd%2=1
     ·rw[g0] at g7
      have HF:Hid (P (.returned (.tuple #[.int .i64 (dd:Int),.int .i64 (j:Int)])) w):=Hd (by
       rw[gb.out];have e:=HQ.out;cases j with
       | zero=>rw[e];exact⟨rfl,rfl⟩
       | succ j =>
         unfold shr at e;rw[if_pos g0] at e;rw[e];exact⟨rfl,rfl⟩)
      clear g2 HQ g5 g0 g8;go_wp2_with fail
      first|exact HF.out|exact bodyPost_ret (results_tmp2 rfl _ _ _) rfl HF.out
     ·have h0:dd%2=0:=by omega
      rw[h0] at g7;obtain⟨j,rfl⟩:∃ i,j=i+1:=by
       cases j with
       | zero =>
         have:=g2.out;simp at this;omega
       | succ j=>exact⟨j,rfl⟩
      have gc:Hid (dd/2<=2^j):=Hd (by
       have:=g2.out;rw[Nat.pow_succ] at this;omega)
      have ga:Hid (r=shr j (dd/2)):=Hd (by
       have e:=HQ.out;unfold shr at e
       rwa [if_neg g0] at e)
      have g4:0<dd/2/\dd/2<=65536/\dd/2<dd:=by omega
      obtain⟨d2,g3⟩:∃ d2,d2=dd/2:=⟨_,rfl⟩;rw[<- g3] at gc ga g4 g8;have gg:((j+1:Nat):Int)-1=(j:Int):=by omega
      clear g2 HQ g5 g0 h0 g3;go_wp2_with fail;go_roundw
      case rel=>exact⟨d2,j,g4.1,g4.2.1,by omega,rfl,by first|rfl|(congr 1<;>omega),gc,ga,Hd trivial⟩
      case measure=>simp[intOf]<;>omega
end Go.Proofs.YtgmbklaolcmljaaGreat
