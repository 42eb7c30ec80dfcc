/- Several texts in one file: contracts of the program's functions and what follows from them. -/
import Derived.Test.YtmofaapnkidioaaGreatE7
import Derived.Deep.WholeRow
import Derived.Deep.Slices
import Derived.ChangeArms
import Derived.WideShapes
set_option linter.unusedSimpArgs false
set_option linter.unusedVariables false
set_option linter.unusedSectionVars false
set_option linter.unnecessarySimpa false
set_option maxRecDepth 100000
set_option maxHeartbeats 8000000
namespace Go.Proofs.YtmofaapnkidioaaGreat
open Go.RowKit
def seqN:Nat->(Nat->Nat->Int×Nat)->Nat->Int×Nat
 | 0,_,p=>(0,p)
 | k+1,f,p=>if (seqN k f p).1=0 then f k (seqN k f p).2 else seqN k f p
theorem Zfe {f:Nat->Nat->Int×Nat} {p k:Nat} (h:(seqN k f p).1=0):seqN (k+1) f p=f k (seqN k f p).2:=if_pos h
theorem Zfd {f:Nat->Nat->Int×Nat} {p j:Nat} (h:(seqN j f p).1≠0):∀ {n:Nat},j<=n->seqN n f p=seqN j f p
 | 0, h1 => by obtain rfl : j = 0 := by omega
               rfl
 | k+1,h1=>by
   rcases Nat.lt_or_ge k j with h2|h2
   ·
    obtain rfl:j=k+1:=by omega
    rfl
   ·
    have e:=Zfd h h2
    show (if (seqN k f p).1=0 then f k (seqN k f p).2 else seqN k f p)=_
    rw[e,if_neg h]
def Zec:ExT->Nat->Nat->Int
 | .nil,_,_=>0
 | .mk op v n _,deep,i=>if 64<deep then 17 else if errN op v n=0 then if 4096<=i then 4 else 0 else errN op v n
def chkG:ExT->Nat->Nat->Int×Nat
 | .nil,_,i=>(0,i+1)
 | .mk op v n kid,deep,i=>if (if 64<deep then 17 else if errN op v n=0 then if 4096<=i then 4 else 0 else errN op v n)=0 then seqN n (fun j q=>chkG (kid j) (deep+1) q) (i+1) else ((if 64<deep then 17 else if errN op v n=0 then if 4096<=i then 4 else 0 else errN op v n),i+1)
theorem Zij (op v:Int) (n:Nat) (kid:Nat->ExT) (deep i:Nat):chkG (.mk op v n kid) deep i=if Zec (.mk op v n kid) deep i=0 then seqN n (fun j q=>chkG (kid j) (deep+1) q) (i+1) else (Zec (.mk op v n kid) deep i,i+1):=rfl
theorem Ziq {op v:Int} {n:Nat} {kid:Nat->ExT} {deep i:Nat} (h:Zec (.mk op v n kid) deep i=0):deep<=64/\i<4096/\Zmm (.mk op v n kid) deep=0:=by
 have h':(if 64<deep then (17:Int) else if errN op v n=0 then if 4096<=i then 4 else 0 else errN op v n)=0:=h
 by_cases h1:64<deep
 ·
  rw[if_pos h1] at h';exact absurd h' (by decide)
 rw[if_neg h1] at h'
 by_cases h2:errN op v n=0
 ·
  rw[if_pos h2] at h'
  by_cases h3:4096<=i
  ·
   rw[if_pos h3] at h';exact absurd h' (by decide)
  ·
   refine⟨by omega,by omega,?_⟩
   show (if 64<deep then (17:Int) else errN op v n)=0
   rw[if_neg h1,h2]
 ·
  rw[if_neg h2] at h';exact absurd h' h2
theorem Znm:∀ (e:ExT) (deep i:Nat),(chkG e deep i).1=0->(chkG e deep i).2=i+e.size
 | .nil,deep,i,_=>rfl
 | .mk op v n kid,deep,i,h=>by
   rw[Zij] at h ⊢
   by_cases h1:Zec (.mk op v n kid) deep i=0
   ·
    rw[if_pos h1] at h ⊢;have hk:∀ k,k<=n->(seqN k (fun j q=>chkG (kid j) (deep+1) q) (i+1)).1=0/\(seqN k (fun j q=>chkG (kid j) (deep+1) q) (i+1)).2=i+1+sumN k fun j=>(kid j).size:=by
     intro k
     induction k with
     | zero=>intro _;exact⟨rfl,rfl⟩
     | succ k ih =>
       intro hk;obtain⟨q1,q2⟩:=ih (by omega);have e1:(seqN (k+1) (fun j q=>chkG (kid j) (deep+1) q) (i+1)).1=0:=by
        rcases Decidable.em ((seqN (k+1) (fun j q=>chkG (kid j) (deep+1) q) (i+1)).1=0) with c|c
        ·
         exact c
        ·
         have:=Zfd c hk;rw[this] at h;exact absurd h c
       refine⟨e1,?_⟩;rw[Zfe q1] at e1 ⊢;rw[Znm (kid k) (deep+1) _ e1,q2]
       show _=i+1+(sumN k (fun j=>(kid j).size)+(kid k).size)
       omega
    rw[(hk n (Nat.le_refl _)).2]
    show _=i+(1+sumN n fun j=>(kid j).size)
    omega
   ·
    rw[if_neg h1] at h;exact absurd h h1
theorem Zjj {w:World}:∀ (e:ExT) (x:Value) (deep i:Nat),Zaq w e x->(chkG e deep i).1=0->(chkG e deep i).2<=4096/\chkT e deep=0
 | .nil,x,deep,i,h,_=>by unfold Zaq at h;exact h.elim
 | .mk op v n kid,x,deep,i,hx,h=>by
   unfold Zaq at hx;obtain⟨a,c,_,_,_,_,h5⟩:=hx;rw[Zij] at h ⊢
   by_cases h1:Zec (.mk op v n kid) deep i=0
   ·
    rw[if_pos h1] at h ⊢;obtain⟨_,hi,hne⟩:=Ziq h1;have hk:∀ k,k<=n->(seqN k (fun j q=>chkG (kid j) (deep+1) q) (i+1)).1=0/\(seqN k (fun j q=>chkG (kid j) (deep+1) q) (i+1)).2<=4096/\∀ j,j<k->chkT (kid j) (deep+1)=0:=by
     intro k
     induction k with
     | zero=>intro _;exact⟨rfl,by show i+1<=4096;omega,fun j hj=>by omega⟩
     | succ k ih =>
       intro hk;obtain⟨q1,q2,q3⟩:=ih (by omega);have e1:(seqN (k+1) (fun j q=>chkG (kid j) (deep+1) q) (i+1)).1=0:=by
        rcases Decidable.em ((seqN (k+1) (fun j q=>chkG (kid j) (deep+1) q) (i+1)).1=0) with c|c
        ·
         exact c
        ·
         have:=Zfd c hk;rw[this] at h;exact absurd h c
       obtain⟨b,off,x0,x1,x2,_,_,_,_,hxk⟩:=h5 k (by omega);refine⟨e1,?_⟩;rw[Zfe q1] at e1 ⊢;obtain⟨r1,r2⟩:=Zjj (kid k) _ (deep+1) _ hxk e1;refine⟨r1,fun j hj=>?_⟩;rcases Nat.lt_or_ge j k with c|c
       ·
        exact q3 j c
       ·
        obtain rfl:j=k:=by omega
        exact r2
    obtain⟨_,q2,q3⟩:=hk n (Nat.le_refl _);refine⟨q2,?_⟩
    show (if (if 64<deep then (17:Int) else errN op v n)=0 then Zfx n fun i=>chkT (kid i) (deep+1) else if 64<deep then 17 else errN op v n)=0
    rw[if_pos (show (if 64<deep then (17:Int) else errN op v n)=0 from hne)];exact Zei.2 q3
   ·
    rw[if_neg h1] at h;exact absurd h h1
section
variable {C:Nat->Prop} {w0:World} {I:Nat->World->Prop} {Bad:Int->World->Prop} {gd:Nat} {caps:Array Value}
def Zs3 (C:Nat->Prop) (w0:World) (I:Nat->World->Prop) (Bad:Int->World->Prop) (gd:Nat) (caps:Array Value):Prop :=
 ∀ (op v:Int) (n:Nat) (kid:Nat->ExT) (x:Value) (deep:Nat) (i:Nat) (W:World),Zaq w0 (.mk op v n kid) x->I i W->deep<=65->i<=4096 ->
  Calls Tryz.prog gd (#[x,.int .i64 deep]++caps) W fun y w'=>∃ b:Bool,y=.returned (.bool b)/\(b=true->Zec (.mk op v n kid) deep i=0/\I (i+1) w')/\(b=false->Zec (.mk op v n kid) deep i≠0/\Bad (Zec (.mk op v n kid) deep i) w')/\Wr C W w'
theorem Zo9 (hC:∀ i W k,I i W->C k->k<W.heap.size) (hI:∀ i W W',I i W->Below W.heap.size W W'->I i W') (hIB:∀ i W,I i W->Below w0.heap.size w0 W)
 (eg:∀ args w,(callFunc gd args).run Tryz.prog w=.ok (.enter gd args) w) (hdo:Zs3 C w0 I Bad gd caps):∀ (e:ExT) (x:Value) (deep:Nat) (i:Nat) (w:World),deep<=65->i<=4096->Zaq w0 e x->I i w ->
 Calls Tryz.prog 178 #[x,.int .i64 deep,.func (.func gd) #[] caps] w fun y w'=>∃ b:Bool,y=.returned (.bool b)/\(b=true->(chkG e deep i).1=0/\I (chkG e deep i).2 w')/\(b=false->(chkG e deep i).1≠0/\Bad (chkG e deep i).1 w')
 | .nil,x,deep,i,w,hd,hs,h,hi=>by unfold Zaq at h;exact h.elim
 | .mk op v n kid,x,deep,i,w,hd,hs,h,hi=>by
   have hx:=h;unfold Zaq at h;obtain⟨a,c,rfl,h2,h3,h4,h5⟩:=h;have H5:=Hd h5;have HDO:Hid (∀ W,I i W->Calls Tryz.prog gd (#[.agg #[.int .i64 op,.int .i64 v,.slice a n c],.int .i64 deep]++caps) W fun y w'=>∃ b:Bool,y=.returned (.bool b)/\(b=true->Zec (.mk op v n kid) deep i=0/\I (i+1) w')/\(b=false->Zec (.mk op v n kid) deep i≠0/\Bad (Zec (.mk op v n kid) deep i) w')/\Wr C W w'):=Hd fun W hW=>hdo op v n kid _ deep i W hx hW hd hs
   have IH:Hid (∀ (j:Nat) (x:Value) (z:Int) (i:Nat) (W:World),z=((deep+1:Nat):Int)->deep+1<=65->i<=4096->Zaq w0 (kid j) x->I i W->Calls Tryz.prog 178 #[x,.int .i64 z,.func (.func gd) #[] caps] W fun y w'=>∃ b:Bool,y=.returned (.bool b)/\(b=true->(chkG (kid j) (deep+1) i).1=0/\I (chkG (kid j) (deep+1) i).2 w')/\(b=false->(chkG (kid j) (deep+1) i).1≠0/\Bad (chkG (kid j) (deep+1) i).1 w')) :=
    Hd fun j x z i W hz h1 h2 h3 h4=>by subst hz;exact Zo9 hC hI hIB eg hdo (kid j) x (deep+1) i W h1 h2 h3 h4
   obtain⟨F,hF⟩:∃ F:Nat->Nat->Int×Nat,F=fun j q=>chkG (kid j) (deep+1) q:=⟨_,rfl⟩
   have HFE:Hid (∀ j q,F j q=chkG (kid j) (deep+1) q):=Hd fun j q=>by rw[hF]
   have HFW:Hid (∀ j q,j<n->(chkG (kid j) (deep+1) q).1=0->(chkG (kid j) (deep+1) q).2<=4096):=Hd fun j q hj h0=>by
    obtain⟨b,off,x0,x1,x2,_,_,_,_,hxk⟩:=h5 j hj;exact(Zjj (kid j) _ (deep+1) q hxk h0).1
   obtain⟨P,hP⟩:∃ P:Ending->World->Prop,P=fun y w'=>∃ b:Bool,y=.returned (.bool b)/\(b=true->(chkG (.mk op v n kid) deep i).1=0/\I (chkG (.mk op v n kid) deep i).2 w')/\(b=false->(chkG (.mk op v n kid) deep i).1≠0/\Bad (chkG (.mk op v n kid) deep i).1 w'):=⟨_,rfl⟩
   have HNO:Hid (∀ w',Zec (.mk op v n kid) deep i≠0->Bad (Zec (.mk op v n kid) deep i) w'->P (.returned (.bool false)) w'):=Hd fun w' h1 h2=>by
    have e:(chkG (.mk op v n kid) deep i).1=Zec (.mk op v n kid) deep i:=by rw[Zij,if_neg h1]
    rw[hP];exact⟨false,rfl,by simp,fun _=>by rw[e];exact⟨h1,h2⟩⟩
   have HKID:Hid (∀ j w',Zec (.mk op v n kid) deep i=0->j<n->(seqN j F (i+1)).1=0->(chkG (kid j) (deep+1) (seqN j F (i+1)).2).1≠0->Bad (chkG (kid j) (deep+1) (seqN j F (i+1)).2).1 w'->P (.returned (.bool false)) w'):=Hd fun j w' h0 hj hq h1 h2=>by
    have e0:seqN (j+1) F (i+1)=chkG (kid j) (deep+1) (seqN j F (i+1)).2:=by rw[Zfe hq,hF]
    have e:chkG (.mk op v n kid) deep i=chkG (kid j) (deep+1) (seqN j F (i+1)).2:=by
     rw[Zij,if_pos h0,<- hF,Zfd (j:=j+1) (by rw[e0];exact h1) (by omega),e0]
    rw[hP];exact⟨false,rfl,by simp,fun _=>by rw[e];exact⟨h1,h2⟩⟩
   have HYES:Hid (∀ w',Zec (.mk op v n kid) deep i=0->(seqN n F (i+1)).1=0->I (seqN n F (i+1)).2 w'->P (.returned (.bool true)) w'):=Hd fun w' h1 h2 h3=>by
    have e:chkG (.mk op v n kid) deep i=seqN n F (i+1):=by rw[Zij,if_pos h1,<- hF]
    rw[hP];exact⟨true,rfl,fun _=>by rw[e];exact⟨h2,h3⟩,by simp⟩
   have HN:Hid (Zec (.mk op v n kid) deep i=0->deep<=64/\i<4096):=Hd fun h=>⟨(Ziq h).1,(Ziq h).2.1⟩
   have HI:=Hd hI;have HIB:=Hd hIB;obtain⟨w1,hw1⟩:∃ w1,w1=w.alloc (.cells #[.int .i64 op,.int .i64 v,.slice a n c] 86):=⟨_,rfl⟩;have HW1:Hid (_=w1):=Hd hw1.symm;have HI1:Hid (I i w1):=by rw[hw1];exact Hd (hI _ _ _ hi (Zad _ _))
   have hblk:w1.heap[w.heap.size]?=some (.cells #[.int .i64 op,.int .i64 v,.slice a n c] 86 (0,0)):=by rw[hw1];exact heap_alloc_new _ _
   have d0:w1.cell? ⟨w.heap.size,0,none⟩=some (.int .i64 op):=by rw[cell_of_row _ _ 0 _ _ _ hblk];rfl
   have d1:w1.cell? ⟨w.heap.size,1,none⟩=some (.int .i64 v):=by rw[cell_of_row _ _ 1 _ _ _ hblk];rfl
   have d2:w1.cell? ⟨w.heap.size,2,none⟩=some (.slice a n c):=by rw[cell_of_row _ _ 2 _ _ _ hblk];rfl
   have HC1:=Hd (HDO.out w1 HI1.out);have HNC:Hid (¬ C w.heap.size/\w.heap.size<w1.heap.size):=Hd ⟨fun e=>by have:=hC _ _ _ hi e;omega,by rw[hw1];simp⟩;rw[<- hP];clear hF hC hP hI hIB hdo hx hi h2 h3 h5 hw1 hblk HDO HI1
   go_enter Tryz.func178,Tryz.ntmps178
   go_upto_region 1 with fail;rw[HW1.out];go_wp2_with fail;refine HC1.out.mono ?_;rintro y w2 ⟨b,rfl,hyes,hno,hwr⟩;have d2':w2.cell? ⟨w.heap.size,2,none⟩=some (.slice a n c):=(World.cell?_of_block (w:=w1) (a:=⟨w.heap.size,2,none⟩) (hwr.keep _ HNC.out.2 HNC.out.1)).trans d2;clear hwr HC1 d0 d1 d2 HW1;cases b with
   | false =>
     obtain⟨q1,q2⟩:=hno rfl;have HF:=Hd (HNO.out w2 q1 q2);clear q1 q2 hno hyes IH HKID HYES;go_wp2_with fail;exact HF.out
   | true =>
     obtain⟨q1,q2⟩:=hyes rfl;have HND:=Hd q1;obtain⟨hd64,hi96⟩:=HN.out q1;have HQ0:Hid (I (seqN 0 F (i+1)).2 w2):=Hd q2;have HQ4:Hid ((seqN 0 F (i+1)).2<=4096):=Hd (by show i+1<=4096;omega);clear q1 q2 hno hyes;go_wp2_with fail
     go_loopw [6,8,17] (fun _ _ s17 wr=>∃ j:Nat,j<=n/\s17=.int .i64 j/\Hid ((seqN j F (i+1)).1=0)/\Hid ((seqN j F (i+1)).2<=4096)/\Hid (I (seqN j F (i+1)).2 wr)) (fun _ _ s17 _=>n-(intOf s17).toNat)
     case atStart=>exact⟨0,Nat.zero_le _,rfl,Hd rfl,HQ4,HQ0⟩
     case round =>
      obtain⟨j,hj,rfl,HTS,HT4,HQ⟩:=hrel;clear d2' HQ0 HQ4
      by_cases hlt:j<n
      ·
       obtain⟨b,off,x0,x1,x2,rfl,c0,c1,c2,hx⟩:=H5.out j hlt;obtain⟨op2,v2,a2,n2,cc2,rfl,rfl,rfl⟩:=hx.shape;have hb0:=HIB.out _ _ HQ.out;have e0:=(hb0.cell (p:=⟨b,off+j*3,none⟩) (Zaa c0)).trans c0;have e1:=(hb0.cell (p:=⟨b,off+j*3+1,none⟩) (Zaa c1)).trans c1;have e2:=(hb0.cell (p:=⟨b,off+j*3+2,none⟩) (Zaa c2)).trans c2;obtain⟨w3,hw3⟩:∃ w3,w3=wr.alloc (.cells #[.int .i64 op2,.int .i64 v2,.slice a2 n2 cc2] 86):=⟨_,rfl⟩;have HW3:Hid (_=w3):=Hd hw3.symm;have hblk:w3.heap[wr.heap.size]?=some (.cells #[.int .i64 op2,.int .i64 v2,.slice a2 n2 cc2] 86 (0,0)):=by rw[hw3];exact heap_alloc_new _ _
       have g0:w3.cell? ⟨wr.heap.size,0,none⟩=some (.int .i64 op2):=by rw[cell_of_row _ _ 0 _ _ _ hblk];rfl
       have g1:w3.cell? ⟨wr.heap.size,1,none⟩=some (.int .i64 v2):=by rw[cell_of_row _ _ 1 _ _ _ hblk];rfl
       have g2:w3.cell? ⟨wr.heap.size,2,none⟩=some (.slice a2 n2 cc2):=by rw[cell_of_row _ _ 2 _ _ _ hblk];rfl
       have hq3:I (seqN j F (i+1)).2 w3:=by rw[hw3];exact HI.out _ _ _ HQ.out (Zad _ _)
       have HCK:=Hd (IH.out j (.agg #[.int .i64 op2,.int .i64 v2,.slice a2 n2 cc2]) ((deep:Int)+1) _ w3 (by omega) (by omega) HT4.out hx hq3);have hin:(j:Int)<n:=by omega
       clear c0 c1 c2 hx hb0 hw3 hblk hq3;go_upto_region 6 with fail;rw[HW3.out];go_wp2_with fail;refine HCK.out.mono ?_;rintro y w4 ⟨b4,rfl,hyes,hno⟩;clear e0 e1 e2 g0 g1 g2 HCK HW3;cases b4 with
       | false =>
         obtain⟨q1,q2⟩:=hno rfl;have HF:=Hd (HKID.out j w4 HND.out hlt HTS.out q1 q2);clear q1 q2 hno hyes;go_wp2_with fail;exact HF.out
       | true =>
         obtain⟨q1,q2⟩:=hyes rfl;have HSQ:Hid (seqN (j+1) F (i+1)=chkG (kid j) (deep+1) (seqN j F (i+1)).2):=Hd (by rw[Zfe HTS.out,HFE.out]);have HT2:Hid ((seqN (j+1) F (i+1)).1=0):=Hd (by rw[HSQ.out];exact q1);have HT3:Hid ((seqN (j+1) F (i+1)).2<=4096):=Hd (by rw[HSQ.out];exact HFW.out j _ hlt q1);have HQ2:Hid (I (seqN (j+1) F (i+1)).2 w4):=Hd (by rw[HSQ.out];exact q2);clear q1 q2 hno hyes HSQ;go_wp2_with fail;go_roundw
         case rel=>exact⟨j+1,by omega,by go_num,HT2,HT3,HQ2⟩
         case measure=>simp[intOf];omega
      ·
       obtain rfl:j=n:=by omega
       have HF:=Hd (HYES.out wr HND.out HTS.out HQ.out);have hin:¬ (j:Int)<(j:Int):=by omega
       go_wp2_with fail;exact HF.out
end
theorem Znk {w0:World} {nb wb:Nat} (hnb:w0.heap.size<=nb) (hwb:w0.heap.size<=wb) (hne:nb≠wb):Zs3 (fun k=>k=nb\/k=wb) w0 (fun i W=>IC w0 nb wb i W) (BadC w0 wb) 179 #[.pointer (some ⟨nb,0,none⟩),.pointer (some ⟨wb,0,none⟩)]:=by
 intro op v n kid x deep i w h hI hd hi;unfold Zaq at h;obtain⟨a,c,rfl,_⟩:=h;obtain⟨hb,hn,hw⟩:=hI;obtain⟨w1,hw1⟩:∃ w1,w1=w.alloc (.cells #[.int .i64 op,.int .i64 v,.slice a n c] 86):=⟨_,rfl⟩;have HW1:Hid (_=w1):=Hd hw1.symm;have hlt:nb<w.heap.size:=(Array.getElem?_eq_some_iff.1 hn).1;have hlt2:wb<w.heap.size:=(Array.getElem?_eq_some_iff.1 hw).1;have hb1:Below w.heap.size w w1:=by rw[hw1];exact Zad _ _
 have hn1:=(hb1.block nb hlt).trans hn;have hy1:=(hb1.block wb hlt2).trans hw;have hx1:w1.heap[w.heap.size]?=some (.cells #[.int .i64 op,.int .i64 v,.slice a n c] 86 (0,0)):=by rw[hw1];exact heap_alloc_new _ _
 obtain⟨w2,hw2⟩:∃ w2,w2=w1.setCell ⟨nb,0,none⟩ (.int .i64 ((i+1:Nat):Int)):=⟨_,rfl⟩;have hn2:w2.heap[nb]?=some (.cells #[.int .i64 ((i+1:Nat):Int)] 3 (0,0)):=by rw[hw2];exact Zae hn1 _
 have hy2:w2.heap[wb]?=_:=(by rw[hw2];exact Zaf (fun e=>hne e.symm) _:w2.heap[wb]?=w1.heap[wb]?).trans hy1;have hx2:w2.heap[w.heap.size]?=_:=(by rw[hw2];exact Zaf (fun e=>by have e2:w.heap.size=nb:=e;omega) _:w2.heap[w.heap.size]?=w1.heap[w.heap.size]?).trans hx1;have hr2:Wr (fun k=>k=nb\/k=wb) w w2:=by rw[hw2];exact(Wr.of_below hb1 _).setCell (p:=⟨nb,0,none⟩) (.inl (.inl rfl)) _
 have HW2:Hid (w1.setCell ⟨nb,0,none⟩ (.int .i64 ((i:Int)+1))=w2):=Hd (by rw[hw2];rfl);have HWG:Hid (∀ W,Wr (fun k=>k=nb\/k=wb) w W->Below w0.heap.size w0 W):=Hd fun W hr=>hb.trans (hr.below (fun k hk=>by rcases hk with rfl|rfl<;>assumption) hb.size)
 have d0:w2.cell? ⟨w.heap.size,0,none⟩=some (.int .i64 op):=by rw[cell_of_row _ _ 0 _ _ _ hx2];rfl
 have d1:w2.cell? ⟨w.heap.size,1,none⟩=some (.int .i64 v):=by rw[cell_of_row _ _ 1 _ _ _ hx2];rfl
 have d2:w2.cell? ⟨w.heap.size,2,none⟩=some (.slice a n c):=by rw[cell_of_row _ _ 2 _ _ _ hx2];rfl
 have cn1:=cell1 hn1;have fn1:w1.frozen? ⟨nb,0,none⟩=false:=by simp[World.frozen?,hn1]
 obtain⟨P,hP⟩:∃ P:Ending->World->Prop,P=fun y w'=>∃ b:Bool,y=.returned (.bool b)/\(b=true->Zec (.mk op v n kid) deep i=0/\IC w0 nb wb (i+1) w')/\(b=false->Zec (.mk op v n kid) deep i≠0/\BadC w0 wb (Zec (.mk op v n kid) deep i) w')/\Wr (fun k=>k=nb\/k=wb) w w':=⟨_,rfl⟩
 have HP:=Hd hP
 show Calls _ _ #[_,_,_,_] _ _
 rw[<- hP];have HR2:=Hd hr2;have HN2:=Hd hn2
 by_cases hdeep:64<deep
 ·
  have cy2:=cell1 hy2;have fy2:w2.frozen? ⟨wb,0,none⟩=false:=by simp[World.frozen?,hy2]
  obtain⟨w3,hw3⟩:∃ w3,w3=w2.setCell ⟨wb,0,none⟩ (.int .i64 17):=⟨_,rfl⟩;have HW3:Hid (_=w3):=Hd hw3.symm;have hy3:w3.heap[wb]?=some (.cells #[.int .i64 17] 37 (0,0)):=by rw[hw3];exact Zae hy2 _
  have hr3:Wr (fun k=>k=nb\/k=wb) w w3:=by rw[hw3];exact hr2.setCell (p:=⟨wb,0,none⟩) (.inl (.inr rfl)) _
  have cy3:=cell1 hy3
  have HF:Hid (P (.returned (.bool false)) w3):=Hd (by
   have e:Zec (.mk op v n kid) deep i=17:=if_pos hdeep;rw[HP.out];exact⟨false,rfl,by simp,fun _=>by rw[e];exact⟨by omega,HWG.out _ hr3,hy3⟩,hr3⟩)
  have hdz:(deep:Int)>64:=by omega
  clear hP hn hw hw1 hb1 hn1 hy1 hx1 hw2 hn2 hy2 hx2 hr2 hw3 hy3 hr3 hb hlt hlt2
  go_enter Tryz.func179,Tryz.ntmps179
  go_upto_region 1 with fail;rw[HW1.out];go_upto_region 2 with fail;rw[HW2.out];go_upto_region 7 with fail;rw[HW3.out];go_wp2_with fail;exact HF.out
 ·
  obtain⟨er,her⟩:∃ er,er=errN op v n:=⟨_,rfl⟩;have HC:=Hd (Zpd op v n c a w2);rw[<- her] at HC;have hnd:Zec (.mk op v n kid) deep i=if er=0 then if 4096<=i then 4 else 0 else er:=by rw[her];exact if_neg hdeep
  have HND:=Hd hnd;have HY2:=Hd hy2;have hnz:¬ (deep:Int)>64:=by omega
  clear hP hn hw hw1 hb1 hn1 hy1 hx1 hw2 hn2 hy2 hx2 hr2 hb hnd her
  go_enter Tryz.func179,Tryz.ntmps179
  go_upto_region 1 with fail;rw[HW1.out];go_upto_region 2 with fail;rw[HW2.out];go_wp2_with fail;refine HC.out.mono ?_;rintro y w3 ⟨rfl,hb3⟩;have hs2:=HR2.out.size;have hr3:Wr (fun k=>k=nb\/k=wb) w w3:=HR2.out.trans (Wr.of_below hb3 (fun _=>False)) (fun _ _ e=>e) (fun _ _ e=>e.elim);have hy3:=(hb3.block wb (by omega)).trans HY2.out;have hn3:=(hb3.block nb (by omega)).trans HN2.out;have cy3:=cell1 hy3;have fy3:w3.frozen? ⟨wb,0,none⟩=false:=by simp[World.frozen?,hy3]
  obtain⟨w4,hw4⟩:∃ w4,w4=w3.setCell ⟨wb,0,none⟩ (.int .i64 er):=⟨_,rfl⟩;have HW4:Hid (_=w4):=Hd hw4.symm;have hy4:w4.heap[wb]?=some (.cells #[.int .i64 er] 37 (0,0)):=by rw[hw4];exact Zae hy3 _
  have hn4:w4.heap[nb]?=_:=(by rw[hw4];exact Zaf hne _:w4.heap[nb]?=w3.heap[nb]?).trans hn3;have hr4:Wr (fun k=>k=nb\/k=wb) w w4:=by rw[hw4];exact hr3.setCell (p:=⟨wb,0,none⟩) (.inl (.inr rfl)) _
  have cy4:=cell1 hy4;have cn4:=cell1 hn4
  by_cases he:er=0
  ·
   subst he
   by_cases hlong:((i+1:Nat):Int)>4096
   ·
    obtain⟨w5,hw5⟩:∃ w5,w5=w4.setCell ⟨wb,0,none⟩ (.int .i64 4):=⟨_,rfl⟩;have HW5:Hid (_=w5):=Hd hw5.symm;have fy4:w4.frozen? ⟨wb,0,none⟩=false:=by simp[World.frozen?,hy4]
    have hy5:w5.heap[wb]?=some (.cells #[.int .i64 4] 37 (0,0)):=by rw[hw5];exact Zae hy4 _
    have hr5:Wr (fun k=>k=nb\/k=wb) w w5:=by rw[hw5];exact hr4.setCell (p:=⟨wb,0,none⟩) (.inl (.inr rfl)) _
    have cy5:=cell1 hy5
    have HF:Hid (P (.returned (.bool false)) w5):=Hd (by
     have e:Zec (.mk op v n kid) deep i=4:=by rw[HND.out,if_pos rfl,if_pos (by omega)]
     rw[HP.out];exact⟨false,rfl,by simp,fun _=>by rw[e];exact⟨by decide,HWG.out _ hr5,hy5⟩,hr5⟩)
    clear hw4 hr4 hy4 hn4 hr3 hy3 hn3 hb3 hs2 HC d0 d1 d2 cn1 fn1 hw5 hy5 hr5;go_upto_region 5 with fail;rw[HW4.out];go_upto_region 7 with fail;rw[HW5.out];go_wp2_with fail;exact HF.out
   ·
    have HF:Hid (P (.returned (.bool true)) w4):=Hd (by
     rw[HP.out];exact⟨true,rfl,fun _=>⟨by rw[HND.out,if_pos rfl,if_neg (by omega)],HWG.out _ hr4,hn4,hy4⟩,by simp,hr4⟩)
    clear hw4 hr4 hy4 hn4 hr3 hy3 hn3 hb3 hs2 HC d0 d1 d2 cn1 fn1;go_upto_region 5 with fail;rw[HW4.out];go_wp2_with fail;exact HF.out
  ·
   have HF:Hid (P (.returned (.bool false)) w4):=Hd (by
    rw[HP.out];exact⟨false,rfl,by simp,fun _=>by rw[HND.out,if_neg he];exact⟨he,HWG.out _ hr4,hy4⟩,hr4⟩)
   have hez:(er == 0)=false:=by simp[he]
   clear hw4 hr4 hy4 hn4 hr3 hy3 hn3 hb3 hs2 HC d0 d1 d2 cn1 fn1;go_upto_region 5 with fail;rw[HW4.out];go_wp2_with fail;exact HF.out
theorem Zpl (e:ExT) (x:Value) (w:World) (h:Zaq w e x):Calls Tryz.prog 121 #[x] w fun y w'=>y=.returned (.int .i64 ((chkG e 1 0).1))/\Below w.heap.size w w':=by
 have hmf:∀ (fn:Fn) (first cap:Array Value) (w:World),(Instr.makeFunc fn first cap).run Tryz.prog w=.ok (.func fn first cap) w:=fun _ _ _ _=>rfl
 obtain⟨op,v,a,n,c,rfl⟩:=h.aggE;obtain⟨w1,hw1⟩:∃ w1,w1=w.alloc (.cells #[.int .i64 op,.int .i64 v,.slice a n c] 86):=⟨_,rfl⟩;have hz1:w1.heap.size=w.heap.size+1:=by rw[hw1];simp
 have hb1:Below w.heap.size w w1:=by rw[hw1];exact Zad _ _
 have hx1:w1.heap[w.heap.size]?=some (.cells #[.int .i64 op,.int .i64 v,.slice a n c] 86 (0,0)):=by rw[hw1];exact heap_alloc_new _ _
 have HW1:Hid (_=w1):=Hd hw1.symm;clear hw1;obtain⟨w2,hw2⟩:∃ w2,w2=(w1.alloc (.cells #[.int .i64 0] 37)).alloc (.cells #[.int .i64 0] 3):=⟨_,rfl⟩;have HW2:Hid (_=w2):=Hd hw2.symm;have hb2:Below w.heap.size w w2:=by rw[hw2];exact(hb1.alloc (by omega) _).alloc (by simp;omega) _
 have hx2:w2.heap[w.heap.size]?=some (.cells #[.int .i64 op,.int .i64 v,.slice a n c] 86 (0,0)):=by
  rw[hw2];exact(Go.heap_alloc_old _ _ (by simp;omega)).trans ((Go.heap_alloc_old _ _ (by omega)).trans hx1)
 have hy2:w2.heap[w1.heap.size]?=some (.cells #[.int .i64 0] 37 (0,0)):=by
  rw[hw2];exact(Go.heap_alloc_old _ _ (by simp)).trans (heap_alloc_new _ _)
 have hn2:w2.heap[w1.heap.size+1]?=some (.cells #[.int .i64 (0:Nat)] 3 (0,0)):=by
  have:=heap_alloc_new (w1.alloc (.cells #[.int .i64 0] 37)) (.cells #[.int .i64 0] 3);rw[World.size_alloc] at this;rw[hw2];exact this
 have hwalk:=Zo9 (C:=fun k=>k=w1.heap.size+1\/k=w1.heap.size) (w0:=w) (I:=fun i W=>IC w (w1.heap.size+1) w1.heap.size i W) (Bad:=BadC w w1.heap.size)
  (fun i W k hI hk=>by rcases hk with rfl|rfl;exact(Array.getElem?_eq_some_iff.1 hI.n).1;exact(Array.getElem?_eq_some_iff.1 hI.y).1)
  (fun i W W' hI hb=>⟨hI.b.trans (hb.mono hI.b.size),(hb.block _ (Array.getElem?_eq_some_iff.1 hI.n).1).trans hI.n,(hb.block _ (Array.getElem?_eq_some_iff.1 hI.y).1).trans hI.y⟩)
  (fun i W hI=>hI.b) Zhv (Znk (w0:=w) (by omega) (by omega) (by omega)) e _ 1 0 w2 (by omega) (by omega) h ⟨hb2,hn2,hy2⟩
 have HWK:Hid (Calls Tryz.prog 178 #[.agg #[.int .i64 op,.int .i64 v,.slice a n c],.int .i64 1,.func (.func 179) #[] #[.pointer (some ⟨w1.heap.size+1,0,none⟩),.pointer (some ⟨w1.heap.size,0,none⟩)]] w2 fun y w'=>∃ b:Bool,y=.returned (.bool b)/\w'.cell? ⟨w1.heap.size,0,none⟩=some (.int .i64 ((chkG e 1 0).1))/\Below w.heap.size w w'):=Hd (hwalk.mono (by
  rintro y w' ⟨b,rfl,h1,h2⟩;cases b with
  | true=>obtain⟨q1,q2⟩:=h1 rfl;exact⟨true,rfl,by rw[q1];exact cell1 q2.y,q2.b⟩
  | false=>obtain⟨q1,q2⟩:=h2 rfl;exact⟨false,rfl,cell1 q2.y,q2.b⟩))
 obtain⟨P,hP⟩:∃ P:Ending->World->Prop,P=fun y w'=>y=.returned (.int .i64 ((chkG e 1 0).1))/\Below w.heap.size w w':=⟨_,rfl⟩
 have HP:Hid (∀ w',Below w.heap.size w w'->P (.returned (.int .i64 ((chkG e 1 0).1))) w'):=Hd fun w' hb=>by rw[hP];exact⟨rfl,hb⟩
 rw[<- hP];obtain⟨E,hE⟩:∃ E,E=(chkG e 1 0).1:=⟨_,rfl⟩;rw[<- hE] at HP HWK;have d0:w2.cell? ⟨w.heap.size,0,none⟩=some (.int .i64 op):=by rw[cell_of_row _ _ 0 _ _ _ hx2];rfl
 have d1:w2.cell? ⟨w.heap.size,1,none⟩=some (.int .i64 v):=by rw[cell_of_row _ _ 1 _ _ _ hx2];rfl
 have d2:w2.cell? ⟨w.heap.size,2,none⟩=some (.slice a n c):=by rw[cell_of_row _ _ 2 _ _ _ hx2];rfl
 clear hP hE hwalk hw2 hb2 hx2 hy2 hn2 hx1 hb1 h hz1
 go_enter Tryz.func121,Tryz.ntmps121
 go_upto_region 1 with fail;rw[HW1.out];go_upto_region 2 with fail;rw[HW2.out];go_wp2_with fail;refine HWK.out.mono ?_;rintro y w3 ⟨b,rfl,hc,hb⟩;have HF:=Hd (HP.out w3 hb);clear hb HWK HP;go_wp2_with fail;exact HF.out
open Go.RowKit
theorem Zw4 (op v:Int) (n:Nat) (kid:Nat->ExT) (deep parts:Nat):Zec (.mk op v n kid) deep parts=if 64<deep then (17:Int) else if (Zbt op).1<0 then 11 else if (op=3/\(v<0\/64<=v))\/(op≠3/\v≠0) then 9 else if (n:Int)<(Zbt op).1\/(Zbt op).2<n then 3 else if 4096<=parts then 4 else 0:=by
 show (if 64<deep then (17:Int) else if errN op v n=0 then if 4096<=parts then 4 else 0 else errN op v n)=_
 unfold errN
 by_cases h1:64<deep
 ·
  rw[if_pos h1,if_pos h1]
 rw[if_neg h1,if_neg h1]
 by_cases h2:(Zbt op).1<0
 ·
  rw[if_pos h2,if_pos h2,if_neg (by decide)]
 rw[if_neg h2,if_neg h2]
 by_cases h3:(op=3/\(v<0\/64<=v))\/(op≠3/\v≠0)
 ·
  rw[if_pos h3,if_pos h3,if_neg (by decide)]
 rw[if_neg h3,if_neg h3]
 by_cases h4:(n:Int)<(Zbt op).1\/(Zbt op).2<n
 ·
  rw[if_pos h4,if_pos h4,if_neg (by decide)]
 rw[if_neg h4,if_neg h4,if_pos rfl]
def Zgm (e:ExT) (deep parts:Nat) (w:World) (y:Ending) (w':World):Prop:=∃ m:Int,y=.returned (.tuple #[.int .i64 (chkG e deep parts).1,.int .i64 m])/\okI m/\((chkG e deep parts).1=0->m=((chkG e deep parts).2:Nat))/\Below w.heap.size w w'
theorem Zi4:∀ (e:ExT) (x:Value) (deep parts:Nat) (w:World),deep<=65->parts<=4096->Zaq w e x ->
 Calls Tryz.prog 125 #[x,.int .i64 deep,.int .i64 parts] w (Zgm e deep parts w)
 | .nil,x,deep,parts,w,hd,hp,h=>by unfold Zaq at h;exact h.elim
 | .mk op v n kid,x,deep,parts,w,hd,hp,h=>by
   unfold Zaq at h;obtain⟨a,c,rfl,h2,h3,h4,h5⟩:=h;have H5:=Hd h5;obtain⟨F,hF⟩:∃ F:Nat->Nat->Int×Nat,F=fun j q=>chkG (kid j) (deep+1) q:=⟨_,rfl⟩
   have HFE:Hid (∀ j q,F j q=chkG (kid j) (deep+1) q):=Hd fun j q=>by rw[hF]
   have HFW:Hid (∀ j q,j<n->(chkG (kid j) (deep+1) q).1=0->(chkG (kid j) (deep+1) q).2<=4096):=Hd fun j q hj h0=>by
    obtain⟨b,off,x0,x1,x2,_,_,_,_,hxk⟩:=h5 j hj;exact(Zjj (kid j) _ (deep+1) q hxk h0).1
   have HV:Hid (∀ l hh:Int,l=(Zbt op).1->hh=(Zbt op).2->chkG (ExT.mk op v n kid) deep parts=if (if 64<deep then (17:Int) else if l<0 then 11 else if (op=3/\(v<0\/64<=v))\/(op≠3/\v≠0) then 9 else if (n:Int)<l\/hh<n then 3 else if 4096<=parts then 4 else 0)=0 then seqN n F (parts+1) else ((if 64<deep then (17:Int) else if l<0 then 11 else if (op=3/\(v<0\/64<=v))\/(op≠3/\v≠0) then 9 else if (n:Int)<l\/hh<n then 3 else if 4096<=parts then 4 else 0),parts+1)):=by
    refine Hd ?_;rintro l hh rfl rfl;rw[Zij,Zw4,hF]
   have IH:Hid (∀ (i:Nat) (x:Value) (z1 z2:Int) (deep parts:Nat) (W:World),z1=(deep:Int)->z2=(parts:Int)->deep<=65->parts<=4096->Zaq W (kid i) x->Calls Tryz.prog 125 #[x,.int .i64 z1,.int .i64 z2] W (Zgm (kid i) deep parts W)) :=
    Hd fun i x z1 z2 deep parts W e1 e2 h1 h2 h3=>by subst e1;subst e2;exact Zi4 (kid i) x deep parts W h1 h2 h3
   have HK:=Hd (fun W=>Zln op W);obtain⟨E,hE⟩:∃ E,E=ExT.mk op v n kid:=⟨_,rfl⟩;rw[<- hE] at HV ⊢;obtain⟨l,hl⟩:∃ l,l=(Zbt op).1:=⟨_,rfl⟩;obtain⟨hi,hhi⟩:∃ hi,hi=(Zbt op).2:=⟨_,rfl⟩;rw[<- hl,<- hhi] at HK;have HVV:=Hd (HV.out l hi hl hhi);obtain⟨w1,hw1⟩:∃ w1,w1=w.alloc (.cells #[.int .i64 op,.int .i64 v,.slice a n c] 86):=⟨_,rfl⟩;have HW1:Hid (_=w1):=Hd hw1.symm;have HB1:Hid (Below w.heap.size w w1):=by rw[hw1];exact Hd (Zad _ _)
   have hblk:w1.heap[w.heap.size]?=some (.cells #[.int .i64 op,.int .i64 v,.slice a n c] 86 (0,0)):=by rw[hw1];exact heap_alloc_new _ _
   have hs1:w1.heap.size=w.heap.size+1:=by rw[hw1];simp
   have d0:w1.cell? ⟨w.heap.size,0,none⟩=some (.int .i64 op):=by rw[cell_of_row _ _ 0 _ _ _ hblk];rfl
   have d1:w1.cell? ⟨w.heap.size,1,none⟩=some (.int .i64 v):=by rw[cell_of_row _ _ 1 _ _ _ hblk];rfl
   have d2:w1.cell? ⟨w.heap.size,2,none⟩=some (.slice a n c):=by rw[cell_of_row _ _ 2 _ _ _ hblk];rfl
   have HE:Hid (∀ k:Int,k≠0->(if 64<deep then (17:Int) else if l<0 then 11 else if (op=3/\(v<0\/64<=v))\/(op≠3/\v≠0) then 9 else if (n:Int)<l\/hi<n then 3 else if 4096<=parts then 4 else 0)=k->(chkG E deep parts).1=k):=Hd fun k hk h=>by rw[HVV.out,if_neg (by rw[h];exact hk)];exact h
   have HE0:Hid ((if 64<deep then (17:Int) else if l<0 then 11 else if (op=3/\(v<0\/64<=v))\/(op≠3/\v≠0) then 9 else if (n:Int)<l\/hi<n then 3 else if 4096<=parts then 4 else 0)=0->chkG E deep parts=seqN n F (parts+1)):=Hd fun h=>by rw[HVV.out,if_pos h]
   have HERR:Hid (∀ (k m:Int) (W:World),k≠0->(chkG E deep parts).1=k->okI m->Below w1.heap.size w1 W->Zgm E deep parts w (.returned (.tuple #[.int .i64 k,.int .i64 m])) W) :=
    Hd fun k m W hk he hm hb=>⟨m,by rw[he],hm,fun e=>(hk (by rw[<- he];exact e)).elim,HB1.out.trans (hb.mono HB1.out.size)⟩
   unfold okI at h2 h3;clear h5 hE hw1 hblk HV hl hhi HVV hF
   go_enter Tryz.func125,Tryz.ntmps125
   go_upto_region 1 with fail;rw[HW1.out]
   by_cases hdp:(deep:Int)>64
   ·
    go_wp2_with fail
    go_ret2
    exact HERR.out 17 _ _ (by decide) (HE.out 17 (by decide) (if_pos (by omega))) (by unfold okI;omega) (Below.refl _ _)
   go_wp2_with fail;refine(HK.out _).mono ?_;rintro y w' ⟨rfl,rfl⟩
   by_cases hl0:l<0
   ·
    go_wp2_with fail
    go_ret2
    exact HERR.out 11 _ _ (by decide) (HE.out 11 (by decide) (by rw[if_neg (by omega),if_pos (by omega)])) (by unfold okI;omega) (Below.refl _ _)
   have hgood:((op == 3)=true/\op=3)\/((op == 3)=false/\(op != 3)=true/\op≠3):=by
    by_cases e:op=3
    ·
     exact .inl ⟨by simp[e],e⟩
    ·
     exact .inr ⟨by simpa using e,by simpa using e,e⟩
   rcases hgood with ⟨g1,g2⟩|⟨g1,g2,g3⟩
   ·
    subst g2
    by_cases hv0:v<0
    ·
     go_wp2_with fail
     go_ret2
     exact HERR.out 9 _ _ (by decide) (HE.out 9 (by decide) (by rw[if_neg (by omega),if_neg (by omega),if_pos (by first|exact .inl ⟨trivial,.inl hv0⟩|exact .inl ⟨rfl,.inl hv0⟩)])) (by unfold okI;omega) (Below.refl _ _)
    by_cases hv1:v>=64
    ·
     go_wp2_with fail
     go_ret2
     exact HERR.out 9 _ _ (by decide) (HE.out 9 (by decide) (by rw[if_neg (by omega),if_neg (by omega),if_pos (by first|exact .inl ⟨trivial,.inr hv1⟩|exact .inl ⟨rfl,.inr hv1⟩)])) (by unfold okI;omega) (Below.refl _ _)
    have HNV:Hid (¬ (((3:Int)=3/\(v<0\/64<=v))\/((3:Int)≠3/\v≠0))):=Hd (by rintro(⟨_,h⟩|⟨h,_⟩);omega;exact h rfl);go_upto_region 9 with fail
    by_cases hnl:(n:Int)<l
    ·
     go_wp2_with fail
     go_ret2
     exact HERR.out 3 _ _ (by decide) (HE.out 3 (by decide) (by rw[if_neg (by omega),if_neg (by omega),if_neg (by first|exact HNV.out|(simp;omega)),if_pos (by omega)])) (by unfold okI;omega) (Below.refl _ _)
    by_cases hnh:(n:Int)>hi
    ·
     go_wp2_with fail
     go_ret2
     exact HERR.out 3 _ _ (by decide) (HE.out 3 (by decide) (by rw[if_neg (by omega),if_neg (by omega),if_neg (by first|exact HNV.out|(simp;omega)),if_pos (by omega)])) (by unfold okI;omega) (Below.refl _ _)
    by_cases hpl:(parts:Int)+1>4096
    ·
     go_wp2_with fail
     go_ret2
     exact HERR.out 4 _ _ (by decide) (HE.out 4 (by decide) (by rw[if_neg (by omega),if_neg (by omega),if_neg (by first|exact HNV.out|(simp;omega)),if_neg (by omega),if_pos (by omega)])) (by unfold okI;omega) (Below.refl _ _)
    go_wp2_with fail
    go_loopw [2,10,11,12] (fun s2 s10 s11 s12 wr=>∃ i p:Nat,i<=n/\p<=4096/\s2=.int .i64 p/\s10=.int .i64 i/\Below w1.heap.size w1 wr/\Hid (p=(seqN i F (parts+1)).2)/\Hid ((seqN i F (parts+1)).1=0)) (fun _ s10 _ _ _=>n-(intOf s10).toNat)
    case atStart=>exact⟨0,parts+1,by omega,by omega,by go_num,rfl,Below.refl _ _,Hd rfl,Hd rfl⟩
    case round =>
     obtain⟨i,p,hin,hp4,rfl,rfl,hbel,HP,HVAL⟩:=hrel;have d2':=(hbel.cell (p:=⟨w.heap.size,2,none⟩) (Zaa d2)).trans d2;have HBEL:=Hd hbel;clear hbel
     by_cases hlt:i<n
     ·
      obtain⟨b,off,x0,x1,x2,rfl,c0,c1,c2,hx⟩:=H5.out i hlt;have hb0:=HB1.out.trans (HBEL.out.mono HB1.out.size);have e0:=(hb0.cell (p:=⟨b,off+i*3,none⟩) (Zaa c0)).trans c0;have e1:=(hb0.cell (p:=⟨b,off+i*3+1,none⟩) (Zaa c1)).trans c1;have e2:=(hb0.cell (p:=⟨b,off+i*3+2,none⟩) (Zaa c2)).trans c2;have HX:=Hd (hx.below hb0);have hiz:(i:Int)<n:=by omega
      clear c0 c1 c2 hx hb0;go_wp2_with fail;refine(IH.out i _ _ _ (deep+1) p _ (by go_num) rfl (by omega) hp4 HX.out).mono ?_;rintro y w3 ⟨m,rfl,hm,hvv,hb3⟩;have HSQ:Hid (seqN (i+1) F (parts+1)=chkG (kid i) (deep+1) p):=Hd (by rw[Zfe HVAL.out,HFE.out,<- HP.out]);have HFWI:Hid ((chkG (kid i) (deep+1) p).1=0->(chkG (kid i) (deep+1) p).2<=4096):=Hd (HFW.out i p hlt);have HSTOP:Hid ((chkG (kid i) (deep+1) p).1≠0->seqN n F (parts+1)=chkG (kid i) (deep+1) p):=Hd fun h=>by rw[Zfd (j:=i+1) (by rw[HSQ.out];exact h) (by omega),HSQ.out]
      obtain⟨R,hR⟩:∃ R,R=chkG (kid i) (deep+1) p:=⟨_,rfl⟩;rw[<- hR] at hvv HSQ HFWI HSTOP ⊢;obtain⟨err,p2⟩:=R;dsimp only at hvv HFWI HSTOP ⊢;have HB3:=Hd (HBEL.out.trans (hb3.mono HBEL.out.size));have HVN:=Hd hvv;clear hb3 hvv hR e0 e1 e2;unfold okI at hm
      by_cases he0:err=0
      ·
       subst he0;have q2:=HVN.out rfl;have hp2:=HFWI.out rfl;have HQ1:Hid (p2=(seqN (i+1) F (parts+1)).2):=Hd (by rw[HSQ.out]);have HQ2:Hid ((seqN (i+1) F (parts+1)).1=0):=Hd (by rw[HSQ.out]);subst q2;clear HVN HSQ HFWI HSTOP HP HVAL;go_wp2_with fail;go_roundw
       case rel=>exact⟨i+1,p2,by omega,by omega,rfl,by go_num,HB3.out,HQ1,HQ2⟩
       case measure=>simp[intOf];omega
      ·
       have hne:(err != 0)=true:=by simpa using he0
       have HF:=Hd (HERR.out err m w3 he0 (by rw[HE0.out (by rw[if_neg (by omega),if_neg (by omega),if_neg (by first|exact HNV.out|(simp;omega)),if_neg (by omega),if_neg (by omega)]),HSTOP.out he0]) hm HB3.out);clear he0 HVN HSQ HFWI HSTOP;go_wp2_with fail
       go_ret2
       exact HF.out
     ·
      have he:i=n:=by omega
      have hiz:¬ (i:Int)<n:=by omega
      have HF:Hid (Zgm E deep parts w (.returned (.tuple #[.int .i64 0,.int .i64 (p:Nat)])) wr):=Hd (by
       have hz:chkG E deep parts=seqN n F (parts+1):=HE0.out (by rw[if_neg (by omega),if_neg (by omega),if_neg (by first|exact HNV.out|(simp;omega)),if_neg (by omega),if_neg (by omega)]);have h1:=HVAL.out;have h2:=HP.out;rw[he,<- hz] at h1 h2;exact⟨p,by rw[h1],by unfold okI;omega,fun _=>by rw[h2],HB1.out.trans (HBEL.out.mono HB1.out.size)⟩)
      go_wp2_with fail
      go_ret2
      exact HF.out
   ·
    by_cases hv0:v=0
    ·
     have hv1:(v != 0)=false:=by simp[hv0]
     have HNV:Hid (¬ ((op=3/\(v<0\/64<=v))\/(op≠3/\v≠0))):=Hd (by rintro(⟨h,_⟩|⟨_,h⟩);exact g3 h;exact h hv0);clear hv0 g3;go_upto_region 9 with fail
     by_cases hnl:(n:Int)<l
     ·
      go_wp2_with fail
      go_ret2
      exact HERR.out 3 _ _ (by decide) (HE.out 3 (by decide) (by rw[if_neg (by omega),if_neg (by omega),if_neg (by first|exact HNV.out|(simp;omega)),if_pos (by omega)])) (by unfold okI;omega) (Below.refl _ _)
     by_cases hnh:(n:Int)>hi
     ·
      go_wp2_with fail
      go_ret2
      exact HERR.out 3 _ _ (by decide) (HE.out 3 (by decide) (by rw[if_neg (by omega),if_neg (by omega),if_neg (by first|exact HNV.out|(simp;omega)),if_pos (by omega)])) (by unfold okI;omega) (Below.refl _ _)
     by_cases hpl:(parts:Int)+1>4096
     ·
      go_wp2_with fail
      go_ret2
      exact HERR.out 4 _ _ (by decide) (HE.out 4 (by decide) (by rw[if_neg (by omega),if_neg (by omega),if_neg (by first|exact HNV.out|(simp;omega)),if_neg (by omega),if_pos (by omega)])) (by unfold okI;omega) (Below.refl _ _)
     go_wp2_with fail
     go_loopw [2,10,11,12] (fun s2 s10 s11 s12 wr=>∃ i p:Nat,i<=n/\p<=4096/\s2=.int .i64 p/\s10=.int .i64 i/\Below w1.heap.size w1 wr/\Hid (p=(seqN i F (parts+1)).2)/\Hid ((seqN i F (parts+1)).1=0)) (fun _ s10 _ _ _=>n-(intOf s10).toNat)
     case atStart=>exact⟨0,parts+1,by omega,by omega,by go_num,rfl,Below.refl _ _,Hd rfl,Hd rfl⟩
     case round =>
      obtain⟨i,p,hin,hp4,rfl,rfl,hbel,HP,HVAL⟩:=hrel;have d2':=(hbel.cell (p:=⟨w.heap.size,2,none⟩) (Zaa d2)).trans d2;have HBEL:=Hd hbel;clear hbel
      by_cases hlt:i<n
      ·
       obtain⟨b,off,x0,x1,x2,rfl,c0,c1,c2,hx⟩:=H5.out i hlt;have hb0:=HB1.out.trans (HBEL.out.mono HB1.out.size);have e0:=(hb0.cell (p:=⟨b,off+i*3,none⟩) (Zaa c0)).trans c0;have e1:=(hb0.cell (p:=⟨b,off+i*3+1,none⟩) (Zaa c1)).trans c1;have e2:=(hb0.cell (p:=⟨b,off+i*3+2,none⟩) (Zaa c2)).trans c2;have HX:=Hd (hx.below hb0);have hiz:(i:Int)<n:=by omega
       clear c0 c1 c2 hx hb0;go_wp2_with fail;refine(IH.out i _ _ _ (deep+1) p _ (by go_num) rfl (by omega) hp4 HX.out).mono ?_;rintro y w3 ⟨m,rfl,hm,hvv,hb3⟩;have HSQ:Hid (seqN (i+1) F (parts+1)=chkG (kid i) (deep+1) p):=Hd (by rw[Zfe HVAL.out,HFE.out,<- HP.out]);have HFWI:Hid ((chkG (kid i) (deep+1) p).1=0->(chkG (kid i) (deep+1) p).2<=4096):=Hd (HFW.out i p hlt);have HSTOP:Hid ((chkG (kid i) (deep+1) p).1≠0->seqN n F (parts+1)=chkG (kid i) (deep+1) p):=Hd fun h=>by rw[Zfd (j:=i+1) (by rw[HSQ.out];exact h) (by omega),HSQ.out]
       obtain⟨R,hR⟩:∃ R,R=chkG (kid i) (deep+1) p:=⟨_,rfl⟩;rw[<- hR] at hvv HSQ HFWI HSTOP ⊢;obtain⟨err,p2⟩:=R;dsimp only at hvv HFWI HSTOP ⊢;have HB3:=Hd (HBEL.out.trans (hb3.mono HBEL.out.size));have HVN:=Hd hvv;clear hb3 hvv hR e0 e1 e2;unfold okI at hm
       by_cases he0:err=0
       ·
        subst he0;have q2:=HVN.out rfl;have hp2:=HFWI.out rfl;have HQ1:Hid (p2=(seqN (i+1) F (parts+1)).2):=Hd (by rw[HSQ.out]);have HQ2:Hid ((seqN (i+1) F (parts+1)).1=0):=Hd (by rw[HSQ.out]);subst q2;clear HVN HSQ HFWI HSTOP HP HVAL;go_wp2_with fail;go_roundw
        case rel=>exact⟨i+1,p2,by omega,by omega,rfl,by go_num,HB3.out,HQ1,HQ2⟩
        case measure=>simp[intOf];omega
       ·
        have hne:(err != 0)=true:=by simpa using he0
        have HF:=Hd (HERR.out err m w3 he0 (by rw[HE0.out (by rw[if_neg (by omega),if_neg (by omega),if_neg (by first|exact HNV.out|(simp;omega)),if_neg (by omega),if_neg (by omega)]),HSTOP.out he0]) hm HB3.out);clear he0 HVN HSQ HFWI HSTOP;go_wp2_with fail
        go_ret2
        exact HF.out
      ·
       have he:i=n:=by omega
       have hiz:¬ (i:Int)<n:=by omega
       have HF:Hid (Zgm E deep parts w (.returned (.tuple #[.int .i64 0,.int .i64 (p:Nat)])) wr):=Hd (by
        have hz:chkG E deep parts=seqN n F (parts+1):=HE0.out (by rw[if_neg (by omega),if_neg (by omega),if_neg (by first|exact HNV.out|(simp;omega)),if_neg (by omega),if_neg (by omega)]);have h1:=HVAL.out;have h2:=HP.out;rw[he,<- hz] at h1 h2;exact⟨p,by rw[h1],by unfold okI;omega,fun _=>by rw[h2],HB1.out.trans (HBEL.out.mono HB1.out.size)⟩)
       go_wp2_with fail
       go_ret2
       exact HF.out
    ·
     have hv1:(v != 0)=true:=by simpa using hv0
     have HNO:Hid ((chkG E deep parts).1=9):=Hd (HE.out 9 (by decide) (by rw[if_neg (by omega),if_neg (by omega),if_pos (.inr ⟨g3,hv0⟩)]));clear hv0 g3;go_wp2_with fail
     go_ret2
     exact HERR.out 9 _ _ (by decide) HNO.out (by unfold okI;omega) (Below.refl _ _)
theorem Zg0 (e:ExT) (x:Value) (w:World) (h:Zaq w e x) :
 Calls Tryz.prog 56 #[x] w fun y w'=>y=.returned (.int .i64 ((chkG e 1 0).1))/\Below w.heap.size w w':=by
 have HC:Hid (∀ W,Below w.heap.size w W->∀ u,u=x->Calls Tryz.prog 125 #[u,.int .i64 1,.int .i64 0] W (Zgm e 1 0 W)):=Hd fun W hb u hu=>by subst hu;exact Zi4 e _ 1 0 W (by omega) (by omega) (h.below hb)
 obtain⟨x0,x1,x2,hx⟩:∃ x0 x1 x2,x=.agg #[x0,x1,x2]:=by
  cases e with
  | nil=>unfold Zaq at h;exact h.elim
  | mk op v n kid =>
    unfold Zaq at h;obtain⟨a,c,rfl,_⟩:=h;exact⟨_,_,_,rfl⟩
 subst hx;obtain⟨w1,hw1⟩:∃ w1,w1=w.alloc (.cells #[x0,x1,x2] 86):=⟨_,rfl⟩;have HW1:Hid (_=w1):=Hd hw1.symm;have HB1:Hid (Below w.heap.size w w1):=by rw[hw1];exact Hd (Zad _ _)
 have hblk:w1.heap[w.heap.size]?=some (.cells #[x0,x1,x2] 86 (0,0)):=by rw[hw1];exact heap_alloc_new _ _
 have d0:w1.cell? ⟨w.heap.size,0,none⟩=some x0:=by rw[cell_of_row _ _ 0 _ _ _ hblk];rfl
 have d1:w1.cell? ⟨w.heap.size,1,none⟩=some x1:=by rw[cell_of_row _ _ 1 _ _ _ hblk];rfl
 have d2:w1.cell? ⟨w.heap.size,2,none⟩=some x2:=by rw[cell_of_row _ _ 2 _ _ _ hblk];rfl
 have hone:x0.cells=#[x0]/\x1.cells=#[x1]/\x2.cells=#[x2]:=by
  cases e with
  | nil=>unfold Zaq at h;exact h.elim
  | mk op v n kid =>
    unfold Zaq at h;obtain⟨a,c,h1,_⟩:=h;cases h1;exact⟨rfl,rfl,rfl⟩
 obtain⟨o0,o1,o2⟩:=hone;clear h hw1 hblk
 go_enter Tryz.func56,Tryz.ntmps56
 go_upto_region 1 with fail;rw[HW1.out];go_wp2_with fail;refine(HC.out _ HB1.out _ rfl).mono ?_;rintro y w2 ⟨m,rfl,hm,_,hb⟩;have HF:Hid (Below w.heap.size w w2):=Hd (HB1.out.trans (hb.mono HB1.out.size));clear hb;go_wp2_with fail;go_ret;exact⟨rfl,HF.out⟩
open Go.RowKit
theorem Zqr (z:Int):okI (wrap64 z):=by unfold okI wrap64;omega
def Zs7 (e:ExT) (w:World) (y:Ending) (w':World):Prop:=∃ r d:Int,y=.returned (.tuple #[.int .i64 r,.int .i64 d])/\okI r/\okI d/\(e.size<=4096->r=(e.size:Nat))/\Below w.heap.size w w'
theorem Zkj:∀ (e:ExT) (x:Value) (w:World),Zaq w e x->Calls Tryz.prog 55 #[x] w (Zs7 e w)
 | .nil,x,w,h=>by unfold Zaq at h;exact h.elim
 | .mk op v n kid,x,w,h=>by
   unfold Zaq at h;obtain⟨a,c,rfl,h2,h3,h4,h5⟩:=h;have H5:=Hd h5;have HSZ:Hid ((ExT.mk op v n kid).size=1+sumN n fun i=>(kid i).size):=Hd rfl;have IH:Hid (∀ (i:Nat) (x:Value) (W:World),Zaq W (kid i) x->Calls Tryz.prog 55 #[x] W (Zs7 (kid i) W)):=Hd fun i x W h=>Zkj (kid i) x W h
   obtain⟨E,hE⟩:∃ E,E=ExT.mk op v n kid:=⟨_,rfl⟩;rw[<- hE] at HSZ ⊢;obtain⟨w1,hw1⟩:∃ w1,w1=w.alloc (.cells #[.int .i64 op,.int .i64 v,.slice a n c] 86):=⟨_,rfl⟩;have HW1:Hid (_=w1):=Hd hw1.symm;have HB1:Hid (Below w.heap.size w w1):=by rw[hw1];exact Hd (Zad _ _)
   have hblk:w1.heap[w.heap.size]?=some (.cells #[.int .i64 op,.int .i64 v,.slice a n c] 86 (0,0)):=by rw[hw1];exact heap_alloc_new _ _
   have d2:w1.cell? ⟨w.heap.size,2,none⟩=some (.slice a n c):=by rw[cell_of_row _ _ 2 _ _ _ hblk];rfl
   obtain⟨P,hP⟩:∃ P,P=Zs7 E w:=⟨_,rfl⟩;have HEND:Hid (∀ (r d:Int) (W:World),okI r->(E.size<=4096->r=(E.size:Nat))->Below w1.heap.size w1 W->okI d->P (.returned (.tuple #[.int .i64 r,.int .i64 d])) W):=Hd fun r d W h1 h2 h3 h4=>by
    rw[hP];exact⟨r,d,rfl,h1,h4,h2,HB1.out.trans (h3.mono HB1.out.size)⟩
   rw[<- hP];clear h5 hE hw1 hblk hP h2 h3
   go_enter Tryz.func55,Tryz.ntmps55
   go_upto_region 1 with fail;rw[HW1.out];go_wp2_with fail
   go_loopw [4,5,6,7,8] (fun s4 s5 s6 _ _ wr=>∃ (i:Nat) (r d:Int),i<=n/\s4=.int .i64 r/\s5=.int .i64 d/\s6=.int .i64 i/\Below w1.heap.size w1 wr/\Hid (okI r)/\Hid (okI d)/\Hid (1+sumN i (fun i=>(kid i).size)<=4096->r=((1+sumN i fun i=>(kid i).size:Nat):Int))) (fun _ _ s6 _ _ _=>n-(intOf s6).toNat)
   case atStart=>exact⟨0,1,0,by omega,rfl,rfl,rfl,Below.refl _ _,Hd (by unfold okI;omega),Hd (by unfold okI;omega),Hd fun _=>rfl⟩
   case round =>
    obtain⟨i,r,d,hin,rfl,rfl,rfl,hbel,HR,HD,HQ⟩:=hrel;have d2':=(hbel.cell (p:=⟨w.heap.size,2,none⟩) (Zaa d2)).trans d2;have HBEL:=Hd hbel;clear hbel
    by_cases hlt:i<n
    ·
     obtain⟨b,off,x0,x1,x2,rfl,c0,c1,c2,hx⟩:=H5.out i hlt;have hb0:=HB1.out.trans (HBEL.out.mono HB1.out.size);have e0:=(hb0.cell (p:=⟨b,off+i*3,none⟩) (Zaa c0)).trans c0;have e1:=(hb0.cell (p:=⟨b,off+i*3+1,none⟩) (Zaa c1)).trans c1;have e2:=(hb0.cell (p:=⟨b,off+i*3+2,none⟩) (Zaa c2)).trans c2;have HX:=Hd (hx.below hb0);have hiz:(i:Int)<n:=by omega
     clear c0 c1 c2 hx hb0;go_wp2_with fail;refine(IH.out i _ _ HX.out).mono ?_;rintro y w3 ⟨k,kd,rfl,hk,hkd,hks,hb3⟩;have HB3:=Hd (HBEL.out.trans (hb3.mono HBEL.out.size));have HSUM:Hid (1+sumN (i+1) (fun i=>(kid i).size)<=4096->wrap64 (r+k)=((1+sumN (i+1) fun i=>(kid i).size:Nat):Int)):=Hd fun hs=>by
      have e:sumN (i+1) (fun i=>(kid i).size)=sumN i (fun i=>(kid i).size)+(kid i).size:=rfl;have q1:=HQ.out (by omega);have q2:=hks (by omega);rw[q1,q2,IntWalk.wrap64_in _ (by omega),e];omega
     have HW:=Hd (Zqr (r+k))
     have HMX:Hid (okI (if d<=kd then kd else d)/\okI (if kd<d then d else kd)/\okI (if d<kd then kd else d)/\okI (max d kd)):=Hd (by
      have:=HD.out;refine⟨?_,?_,?_,?_⟩
      ·
       split<;>assumption
      ·
       split<;>assumption
      ·
       split<;>assumption
      ·
       show okI (if d<=kd then kd else d)
       split<;>assumption)
     clear hb3 hk hkd hks e0 e1 e2;go_wp2_with fail;go_roundw
     case rel=>exact⟨i+1,_,_,by omega,rfl,rfl,by go_num,HB3.out,HW,Hd (by first | exact HMX.out.2.2.1 | exact HMX.out.2.2.2),HSUM⟩
     case measure=>simp[intOf];omega
    ·
     have he:i=n:=by omega
     have hiz:¬ (i:Int)<n:=by omega
     have HF:Hid (P (.returned (.tuple #[.int .i64 r,.int .i64 (wrap64 (d+1))])) wr):=Hd (HEND.out r _ wr HR.out (fun hs=>by
      rw[HSZ.out,<- he] at hs ⊢;exact HQ.out hs) HBEL.out (Zqr _))
     go_wp2_with fail;exact HF.out
open Go.RowKit
theorem Zn1 {w:World}:∀ (e:ExT) {x:Value},Zaq w e x->Zbg (fun k=>k<w.heap.size) w e x
 | .nil,_,h=>by unfold Zaq at h;exact h.elim
 | .mk op v n kid,x,h=>by
   unfold Zaq at h;unfold Zbg;obtain⟨a,c,h1,h2,h3,h4,h5⟩:=h;refine⟨a,c,h1,h2,h3,h4,fun k hk=>?_⟩;obtain⟨b,off,x0,x1,x2,e0,c0,c1,c2,hx⟩:=h5 k hk;exact⟨b,off,x0,x1,x2,e0,Zaa c0,c0,c1,c2,Zn1 (kid k) hx⟩
theorem Zv8 {w:World} {e:ExT} {x:Value} (hx:Zaq w e x) (h:(chkG e 1 0).1=0):e.size<=4096/\okT e 1:=by
 obtain⟨h1,h2⟩:=Zjj e x 1 0 hx h;rw[Znm e 1 0 h] at h1;exact⟨by omega,(Zl5 hx).1 h2⟩
theorem Zsw (e:ExT) (x:Value) (w:World) (h:Zaq w e x) (hbad:(chkG e 1 0).1≠0) :
 Calls Tryz.prog 57 #[x] w fun y w'=>y=.returned (.slice none 0 0)/\Below w.heap.size w w':=by
 obtain⟨op,v,a,n,c,rfl⟩:=h.aggE;obtain⟨w1,hw1⟩:∃ w1,w1=w.alloc (.cells #[.int .i64 op,.int .i64 v,.slice a n c] 86):=⟨_,rfl⟩;have HW1:Hid (_=w1):=Hd hw1.symm;have hb1:Below w.heap.size w w1:=by rw[hw1];exact Zad _ _
 have hx1:w1.heap[w.heap.size]?=some (.cells #[.int .i64 op,.int .i64 v,.slice a n c] 86 (0,0)):=by rw[hw1];exact heap_alloc_new _ _
 have d0:w1.cell? ⟨w.heap.size,0,none⟩=some (.int .i64 op):=by rw[cell_of_row _ _ 0 _ _ _ hx1];rfl
 have d1:w1.cell? ⟨w.heap.size,1,none⟩=some (.int .i64 v):=by rw[cell_of_row _ _ 1 _ _ _ hx1];rfl
 have d2:w1.cell? ⟨w.heap.size,2,none⟩=some (.slice a n c):=by rw[cell_of_row _ _ 2 _ _ _ hx1];rfl
 have HCK:=Hd (Zg0 e _ w1 (h.below hb1));have HB1:=Hd hb1;obtain⟨er,her⟩:∃ er,er=(chkG e 1 0).1:=⟨_,rfl⟩;rw[<- her] at HCK hbad;have hne:(er == 0)=false:=by simpa using hbad
 have hne2:(er != 0)=true:=by simpa using hbad
 clear hw1 hb1 hx1 h her hbad
 go_enter Tryz.func57,Tryz.ntmps57
 go_upto_region 1 with fail;rw[HW1.out];go_wp2_with fail;refine HCK.out.mono ?_;rintro y w2 ⟨rfl,hb2⟩;have HF:=Hd (HB1.out.trans (hb2.mono HB1.out.size));clear hb2 HCK d0 d1 d2 HW1;go_wp2_with fail;go_ret;exact⟨rfl,HF.out⟩
theorem Zzo {K:Law} {n:Nat} {Od:List Nat->Prop} {room:Nat} {w0 w:World} {mb:Nat} {fs:List (Int×BF)} {nx:Int} {o:Own} {m:ManD} {V:Nat->BF} {e:ExT} {x:Value} (h:SatE K n Od room w0 mb fs nx w o m V) (hx:Zaq w e x) (hbad:(chkG e 1 0).1≠0) :
 Calls Tryz.prog 54 #[.pointer (some ⟨mb,0,none⟩),x] w fun y w'=>y=.returned (.tuple #[.int .i64 0,.int .i64 (chkG e 1 0).1])/\Below w.heap.size w w':=by
 obtain⟨op,v,a,nk,c,rfl⟩:=hx.aggE;obtain⟨w1,hw1⟩:∃ w1,w1=w.alloc (.cells #[.int .i64 op,.int .i64 v,.slice a nk c] 86):=⟨_,rfl⟩;have HW1:Hid (_=w1):=Hd hw1.symm;have hb1:Below w.heap.size w w1:=by rw[hw1];exact Zad _ _
 have hx1:w1.heap[w.heap.size]?=some (.cells #[.int .i64 op,.int .i64 v,.slice a nk c] 86 (0,0)):=by rw[hw1];exact heap_alloc_new _ _
 have d0:w1.cell? ⟨w.heap.size,0,none⟩=some (.int .i64 op):=by rw[cell_of_row _ _ 0 _ _ _ hx1];rfl
 have d1:w1.cell? ⟨w.heap.size,1,none⟩=some (.int .i64 v):=by rw[cell_of_row _ _ 1 _ _ _ hx1];rfl
 have d2:w1.cell? ⟨w.heap.size,2,none⟩=some (.slice a nk c):=by rw[cell_of_row _ _ 2 _ _ _ hx1];rfl
 have HCK:=Hd (Zpl e _ w1 (hx.below hb1));have HB1:=Hd hb1;obtain⟨er,her⟩:∃ er,er=(chkG e 1 0).1:=⟨_,rfl⟩;rw[<- her] at HCK hbad ⊢;have hne:(er == 0)=false:=by simpa using hbad
 have hne2:(er != 0)=true:=by simpa using hbad
 clear hw1 hb1 hx1 h hx her hbad
 go_enter Tryz.func54,Tryz.ntmps54
 go_upto_region 1 with fail;rw[HW1.out];go_wp2_with fail;refine HCK.out.mono ?_;rintro y w2 ⟨rfl,hb2⟩;have HF:=Hd (HB1.out.trans (hb2.mono HB1.out.size));clear hb2 HCK d0 d1 d2 HW1;go_wp2_with fail
 go_ret2
 exact⟨rfl,HF.out⟩
open Go.RowKit
open Go.RowKit
open Go.RowKit
open Go.RowKit
open Go.RowKit
open Go.RowKit
open Go.RowKit
open Go.RowKit
open Go.RowKit
open Go.RowKit
section
variable {K:Law} {n room:Nat} {w0 w:World} {mb:Nat} {fs:List (Int×BF)} {nx:Int} {ws0:List Ev} {rs:List (Value×BF)}
theorem StF.left (h:StF K n room w0 mb fs nx ws0 rs w) (q:Nat) (hq:q<=1000000) (hl:fs.length=q+2):Calls Tryz.prog 30 #[.pointer (some ⟨mb,0,none⟩),.int .i64 q] w fun x w'=>x=.returned (.bool true)/\w=w' :=
 h.ask fun o m V hs=>(Zww hs q hq).mono fun e w' ⟨h1,h2⟩=>⟨by rw[h1,decide_eq_true hl],h2⟩
end
end Go.Proofs.YtmofaapnkidioaaGreat

namespace Go.Proofs.YtmofaapnkidioaaGreat
open Go.RowKit Go.Deep Go.ChangeShapes Go.WideShapes
theorem wfI {x:Int} (h:(Lit.int .i64 x).wf=true):okI x:=by
 unfold okI;simp only[Lit.wf,IntKind.min,IntKind.max,IntKind.signed,IntKind.bits,Bool.and_eq_true,decide_eq_true_eq,if_true] at h;omega
theorem Zl2 {b off:Nat} (k:Nat):(⟨b,off,none⟩:Addr).add k=⟨b,off+k,none⟩:=by unfold Addr.add;split<;>simp_all
theorem add0 (a:Addr):a.add 0=a:=by simp[Addr.add]
theorem Zf6 {w:World} {a:Addr} {v:Value} (h:w.cell? a=some v):a.spot=none:=by
 obtain⟨b,off,spot⟩:=a;cases spot with
 | none=>rfl
 | some s=>simp[World.cell?] at h;split at h<;>simp at h
theorem Zto {n:Nat} {p:Nat->Ev->Prop} (h:∀ i,i<n->∃ x,p i x):∃ f:Nat->Ev,∀ i,i<n->p i (f i):=by
 classical
 refine⟨fun i=>if hi:i<n then Classical.choose (h i hi) else ⟨0,0,0⟩,fun i hi=>?_⟩;simp only[dif_pos hi];exact Classical.choose_spec (h i hi)
theorem Zmo {H:Type} {enc:TypeId×Value->H} {P:Program} {w:World} {base:Nat} {spare:Nat->Bool} {held:Bool} {t e:TypeId} {fuel:Nat} {cs:List Value} {x:DataW H×List MemPlace} (ht:P.underlying t=some (.slice e)) (h:DataW.trod enc P w base spare held fuel t cs=some x) :
 cs=[.slice none 0 0]\/∃ (a:Addr) (len cap n:Nat),cs=[.slice (some a) len cap]/\len<=cap/\cap<=maxLen/\fuel=n+1/\∀ i,i<len->∃ cs' y,w.cells? base (a.add (i*P.cellsOf e)) (P.cellsOf e)=some cs'/\DataW.trod enc P w base spare held n e cs'=some y:=by
 rcases DataW.trod_slice ht h with ⟨h0,_⟩|⟨a,len,cap,elems,rest,n,hn,e1,_,_,hl,hm,hlen,hel,_⟩
 ·
  exact .inl h0
 ·
  refine .inr ⟨a,len,cap,n,e1,hl,hm,hn,fun i hi=>?_⟩;have:=hel i hi;rw[List.getElem?_eq_getElem (by omega)] at this;obtain⟨cs',h1,h2⟩:=Option.bind_eq_some_iff.1 this;exact⟨cs',_,h1,h2⟩
theorem open_expr {H:Type} {enc:TypeId×Value->H} {w:World} {base:Nat} {spare:Nat->Bool} {held:Bool}:∀ (fuel:Nat) {cs:List Value} {x:DataW H×List MemPlace},
 DataW.trod enc Tryz.prog w base spare held fuel 86 cs=some x->∃ e x0 x1 x2,cs=[x0,x1,x2]/\Zaq w e (.agg #[x0,x1,x2]):=by
 intro fuel
 induction fuel using Nat.strongRecOn with
 | _ fuel IH =>
   intro cs x h;obtain⟨xs,k,hk,hxy,hcl,hxl,hf⟩:=DataW.trod_struct Tryz.underlying86 h;have c1:Tryz.prog.cellsOf 3=1:=by kernel_rfl
   have c2:Tryz.prog.cellsOf 23=1:=by kernel_rfl
   have c3:Tryz.prog.cellsOf 86=3:=by kernel_rfl
   rw[c3] at hcl
   match xs,hxl,cs,hcl with
   | [y0,y1,y2],_,[v0,v1,v2],_ =>
     have g0:=hf 0 _ rfl;have g1:=hf 1 _ rfl;have g2:=hf 2 _ rfl;simp[c1,c2] at g0 g1 g2;obtain⟨n0,e0,_,w0⟩:=DataW.trod_int Tryz.underlying3 g0;obtain⟨n1,e1,_,w1⟩:=DataW.trod_int Tryz.underlying3 g1;simp only[List.cons.injEq,and_true] at e0 e1;subst e0 e1;rcases Zmo Tryz.underlying23 g2 with e2|⟨a,len,cap,n,e2,hl,hm,hkn,hx⟩
     ·
      simp only[List.cons.injEq,and_true] at e2;subst e2;exact⟨.mk n0 n1 0 (fun _=>.nil),_,_,_,rfl,by unfold Zaq;exact⟨none,0,rfl,wfI w0,wfI w1,by omega,fun k hk=>by omega⟩⟩
     ·
      simp only[List.cons.injEq,and_true] at e2;subst e2;have each:∀ i,i<len->∃ q:ExT,∃ x0 x1 x2,w.cell? (a.add (i*3))=some x0/\w.cell? ((a.add (i*3)).add 1)=some x1/\w.cell? ((a.add (i*3)).add 2)=some x2/\Zaq w q (.agg #[x0,x1,x2]):=by
       intro i hi;obtain⟨cs',y,h1,h2⟩:=hx i hi;rw[c3] at h1;obtain⟨_,hlen,hcell⟩:=World.cells?_some h1;obtain⟨e,x0,x1,x2,rfl,he⟩:=IH n (by omega) h2;have f0:=hcell 0 (by omega);have f1:=hcell 1 (by omega);have f2:=hcell 2 (by omega);rw[add0] at f0;exact⟨e,x0,x1,x2,by simpa using f0,by simpa using f1,by simpa using f2,he⟩
      obtain⟨q,hq⟩:=choose_lt each;refine⟨.mk n0 n1 len q,_,_,_,rfl,?_⟩;unfold Zaq;refine⟨some a,cap,rfl,wfI w0,wfI w1,by unfold maxLen at hm;omega,fun i hi=>?_⟩;obtain⟨x0,x1,x2,f0,f1,f2,he⟩:=hq i hi;have hsp:a.spot=none:=by
       obtain⟨_,_,_,q0,_⟩:=hq 0 (by omega);have:=Zf6 q0;simpa [Addr.add] using this
      obtain⟨b,off,spot⟩:=a;dsimp only at hsp;subst hsp;simp only[Zl2] at f0 f1 f2;exact⟨b,off,x0,x1,x2,rfl,f0,f1,f2,he⟩
theorem Zsk {H:Type} {enc:TypeId×Value->H} {w:World} {base:Nat} {spare:Nat->Bool} {held:Bool} {fuel:Nat} {cs:List Value} {x:DataW H×List MemPlace}
 (h:DataW.trod enc Tryz.prog w base spare held fuel 23 cs=some x):∃ a l cap,cs=[.slice a l.length cap]/\Zjt w a l:=by
 have c3:Tryz.prog.cellsOf 86=3:=by kernel_rfl
 rcases Zmo Tryz.underlying23 h with e2|⟨a,len,cap,n,e2,hl,hm,hkn,hx⟩
 ·
  exact⟨none,[],0,e2,⟨by simp,fun k hk=>by simp at hk⟩⟩
 ·
  subst e2;have each:∀ i,i<len->∃ q:ExT,∃ x0 x1 x2,w.cell? (a.add (i*3))=some x0/\w.cell? ((a.add (i*3)).add 1)=some x1/\w.cell? ((a.add (i*3)).add 2)=some x2/\Zaq w q (.agg #[x0,x1,x2]):=by
   intro i hi;obtain⟨cs',y,h1,h2⟩:=hx i hi;rw[c3] at h1;obtain⟨_,hlen,hcell⟩:=World.cells?_some h1;obtain⟨e,x0,x1,x2,rfl,he⟩:=open_expr n h2;have f0:=hcell 0 (by omega);have f1:=hcell 1 (by omega);have f2:=hcell 2 (by omega);rw[add0] at f0;exact⟨e,x0,x1,x2,by simpa using f0,by simpa using f1,by simpa using f2,he⟩
  obtain⟨q,hq⟩:=choose_lt each;refine⟨some a,(List.range len).map q,cap,by simp,⟨by unfold maxLen at hm;simp;omega,fun i hi=>?_⟩⟩;have hi':i<len:=by simpa using hi
  obtain⟨x0,x1,x2,f0,f1,f2,he⟩:=hq i hi';have hsp:a.spot=none:=by
   obtain⟨_,_,_,q0,_⟩:=hq 0 (by omega);have:=Zf6 q0;simpa [Addr.add] using this
  obtain⟨b,off,spot⟩:=a;dsimp only at hsp;subst hsp;simp only[Zl2] at f0 f1 f2;exact⟨b,off,x0,x1,x2,rfl,f0,f1,f2,by simpa using he⟩
theorem open_evs {H:Type} {enc:TypeId×Value->H} {w:World} {base:Nat} {spare:Nat->Bool} {held:Bool} {fuel:Nat} {cs:List Value} {x:DataW H×List MemPlace}
 (h:DataW.trod enc Tryz.prog w base spare held fuel 24 cs=some x):∃ a l cap,cs=[.slice a l.length cap]/\EvsAt w a l/\(∀ ev∈l,okI ev.after/\okI ev.kind/\okI ev.level)/\(a=none->cap=0)/\l.length<=cap/\cap<=maxLen:=by
 have c1:Tryz.prog.cellsOf 3=1:=by kernel_rfl
 have c3:Tryz.prog.cellsOf 103=3:=by kernel_rfl
 rcases Zmo Tryz.underlying24 h with e2|⟨a,len,cap,n,e2,hl,hm,hkn,hx⟩
 ·
  exact⟨none,[],0,e2,⟨by simp,fun k hk=>by simp at hk⟩,by simp,fun _=>rfl,by simp,by simp⟩
 ·
  subst e2;have each:∀ i,i<len->∃ q:Ev,w.cell? (a.add (i*3))=some (.int .i64 q.after)/\w.cell? ((a.add (i*3)).add 1)=some (.int .i64 q.kind)/\w.cell? ((a.add (i*3)).add 2)=some (.int .i64 q.level)/\okI q.after/\okI q.kind/\okI q.level:=by
   intro i hi;obtain⟨cs',y,h1,h2⟩:=hx i hi;rw[c3] at h1;obtain⟨_,hlen,hcell⟩:=World.cells?_some h1;obtain⟨xs,k,hk,hxy,_,hxl,hf⟩:=DataW.trod_struct Tryz.underlying103 h2
   match xs,hxl,cs',hlen with
   | [y0,y1,y2],_,[v0,v1,v2],_ =>
     have g0:=hf 0 _ rfl;have g1:=hf 1 _ rfl;have g2:=hf 2 _ rfl;simp[c1] at g0 g1 g2;obtain⟨n0,e0,_,w0⟩:=DataW.trod_int Tryz.underlying3 g0;obtain⟨n1,e1,_,w1⟩:=DataW.trod_int Tryz.underlying3 g1;obtain⟨n2,e2,_,w2⟩:=DataW.trod_int Tryz.underlying3 g2;simp only[List.cons.injEq,and_true] at e0 e1 e2;subst e0 e1 e2;have f0:=hcell 0 (by omega);have f1:=hcell 1 (by omega);have f2:=hcell 2 (by omega);rw[add0] at f0;exact⟨⟨n0,n1,n2⟩,by simpa using f0,by simpa using f1,by simpa using f2,wfI w0,wfI w1,wfI w2⟩
  obtain⟨q,hq⟩:=Zto each;refine⟨some a,(List.range len).map q,cap,by simp,⟨by unfold maxLen at hm;simp;omega,fun i hi=>?_⟩,?_,by simp,by simpa using hl,hm⟩
  ·
   have hi':i<len:=by simpa using hi
   obtain⟨f0,f1,f2,_⟩:=hq i hi';have hsp:a.spot=none:=by
    obtain⟨q0,_⟩:=hq 0 (by omega);have:=Zf6 q0;simpa [Addr.add] using this
   obtain⟨b,off,spot⟩:=a;dsimp only at hsp;subst hsp;simp only[Zl2] at f0 f1 f2;exact⟨b,off,rfl,by simpa using f0,by simpa using f1,by simpa using f2⟩
  ·
   intro ev hev;obtain⟨i,hi,rfl⟩:=List.mem_map.1 hev;exact(hq i (by simpa using hi)).2.2.2
theorem open_ask {H:Type} {enc:TypeId×Value->H} {w:World} {base:Nat} {held:Bool} {fuel:Nat} {v:Value} {cs:Array Value} {x:DataW H×List MemPlace} (hv:v=.agg cs)
 (h:DataW.trod enc Tryz.prog w base (fun _=>true) held fuel 26 v.cells.toList=some x):∃ q ao ae ap co ce cp,v=askV q ao ae ap co ce cp/\AskAt w q ao ae ap/\(∀ ev∈q.plan,okI ev.after/\okI ev.kind/\okI ev.level)/\(ao=none->co=0)/\(ap=none->cp=0)/\q.plan.length<=cp/\cp<=maxLen:=by
 subst hv;obtain⟨xs,k,hk,hxy,hcl,hxl,hf⟩:=DataW.trod_struct Tryz.underlying26 h;have c1:Tryz.prog.cellsOf 3=1:=by kernel_rfl
 have c2:Tryz.prog.cellsOf 22=1:=by kernel_rfl
 have c4:Tryz.prog.cellsOf 23=1:=by kernel_rfl
 have c5:Tryz.prog.cellsOf 24=1:=by kernel_rfl
 have c3:Tryz.prog.cellsOf 26=4:=by kernel_rfl
 rw[c3] at hcl;obtain⟨cl⟩:=cs;simp only[Value.cells] at hcl hf
 match xs,hxl,cl,hcl with
 | [y0,y1,y2,y3],_,[v0,v1,v2,v3],_ =>
   have g0:=hf 0 _ rfl;have g1:=hf 1 _ rfl;have g2:=hf 2 _ rfl;have g3:=hf 3 _ rfl;simp[c1,c2,c4,c5] at g0 g1 g2 g3;obtain⟨n0,e0,_,w0⟩:=DataW.trod_int Tryz.underlying3 g0;simp only[List.cons.injEq,and_true] at e0;subst e0;obtain⟨ao,zs,co,e1,hio,hno⟩:∃ a zs c,v1=.slice a zs.length c/\Za4 w a zs/\(a=none->c=0):=by
    rcases open_ints Tryz.underlying22 Tryz.underlying3 (by kernel_rfl) g1 with ⟨hcs,_⟩|⟨x,l,c,zs,hcs,_,hl,hm,hz,_,hcell,hwz⟩
    ·
     simp at hcs;subst hcs;obtain⟨a,c,e,h1,h2⟩:=sliceIs_of_row (w:=w) (a:=none) (len:=0) (cap:=0) (.inl ⟨rfl,rfl,rfl,rfl⟩);exact⟨a,_,c,e,h1,h2⟩
    ·
     simp at hcs;subst hcs;obtain⟨a,c,e,h1,h2⟩:=sliceIs_of_row (w:=w) (.inr ⟨_,rfl,hl,hm,by simpa using hz,hcell,hwz⟩);exact⟨a,_,c,e,h1,h2⟩
   obtain⟨ae,es,ce,e2,hes⟩:=Zsk g2;obtain⟨ap,evs,cp,e3,hev,hok,hnp,hlp,hmp⟩:=open_evs g3;simp only[List.cons.injEq,and_true] at e2 e3;subst e1 e2 e3;exact⟨⟨n0,zs,es,evs⟩,ao,ae,ap,co,ce,cp,rfl,⟨wfI w0,hio,hes,hev⟩,hok,hno,hnp,hlp,hmp⟩
end Go.Proofs.YtmofaapnkidioaaGreat
