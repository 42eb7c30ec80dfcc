/- Several texts in one file: contracts of the program's functions and what follows from them. -/
import Derived.Test.YtkbegdkpboklpaaGreatN4
import Derived.Maps.RangeRun
import Derived.Shelf.SlSortCmp.WholeK
import Derived.Shelf.SlicesG.Cmp
import Derived.Shelf.SlGeneric
import Derived.Ground.SlsfProg
import Derived.Ground.SlgcProg
import Derived.Test.YtkbegdkpboklpaaGreatProg
import Derived.Shelf.SlSortCmp.NoneTotal
set_option linter.unusedSimpArgs false
set_option linter.unusedVariables false
set_option linter.unusedSectionVars false
set_option linter.unnecessarySimpa false
set_option maxRecDepth 100000
set_option maxHeartbeats 8000000
namespace Go.Proofs.YtkbegdkpboklpaaGreat
open Go.Proofs.Tryz
open Go.RowKit
theorem Zgi {f:Nat->Nat}{i:Nat}:∀ {n:Nat},i<n->sumN i f+f i<=sumN n f
 | 0,h=>by omega
 | k+1,h=>by
   rcases Nat.lt_or_ge i k with h'|h'
   .
    have:=Zgi (f:=f) h'
    show _<=sumN k f+f k
    omega
   .
    obtain rfl:i=k:=by omega
    exact Nat.le_refl _
def Ze3 (op:Int):Int×Int :=
 if op=1\/op=2\/op=3 then (0,0) else if op=4 then (1,1) else if op=5\/op=6\/op=7 then (0,64) else if op=8\/op=9 then (2,2) else if op=10 then (3,3) else (-1,-1)
def okT:ExT->Nat->Prop
 | .nil,_=>False
 | .mk op v n kid,deep=>deep<=64/\0<=(Ze3 op).1/\(op=3->0<=v/\v<64)/\(op≠3->v=0)/\(Ze3 op).1<=n/\(n:Int)<=(Ze3 op).2/\∀ i,i<n->okT (kid i) (deep+1)
def Zsp:ExT->Prop
 | .nil=>False
 | .mk op v n kid=>0<=(Ze3 op).1/\(op=3->0<=v/\v<64)/\(op≠3->v=0)/\(Ze3 op).1<=n/\(n:Int)<=(Ze3 op).2/\∀ i,i<n->Zsp (kid i)
theorem okT.valid:∀ {e:ExT} {deep:Nat},okT e deep->Zsp e
 | .nil,_,h=>h.elim
 | .mk op v n kid,deep,h=>by
   obtain⟨_,h1,h2,h3,h4,h5,h6⟩:=h;exact⟨h1,h2,h3,h4,h5,fun i hi=>(h6 i hi).valid⟩
theorem Ztl (op:Int)(w:World):Calls prog 180 #[.int .i64 op] w fun y w'=>y=.returned (.tuple #[.int .i64 (Ze3 op).1,.int .i64 (Ze3 op).2])/\w=w':=by
 obtain⟨p,hp⟩:∃ p,p=Ze3 op:=⟨_,rfl⟩;rw[<- hp];unfold Ze3 at hp;rcases(by omega:op=1\/op=2\/op=3\/op=4\/op=5\/op=6\/op=7\/op=8\/op=9\/op=10\/(op<1\/10<op)) with rfl|rfl|rfl|rfl|rfl|rfl|rfl|rfl|rfl|rfl|h
 all_goals
  first
  | (simp at hp
     subst hp
     go_enter func180,ntmps180
     go_wp2_with fail
     go_ret2
     exact⟨rfl,rfl⟩)
  | (have h1 : (op == 1) = false := by simp; omega
     have h2:(op == 2)=false:=by simp;omega
     have h3:(op == 3)=false:=by simp;omega
     have h4:(op == 4)=false:=by simp;omega
     have h5:(op == 5)=false:=by simp;omega
     have h6:(op == 6)=false:=by simp;omega
     have h7:(op == 7)=false:=by simp;omega
     have h8:(op == 8)=false:=by simp;omega
     have h9:(op == 9)=false:=by simp;omega
     have g0:(op == 10)=false:=by simp;omega
     rw[if_neg (by omega),if_neg (by omega),if_neg (by omega),if_neg (by omega),if_neg (by omega)] at hp;subst hp;clear h
     go_enter func180,ntmps180
     go_wp2_with fail
     go_ret2
     exact⟨rfl,rfl⟩)
def Zfn (e:ExT)(deep parts:Nat)(w:World)(y:Ending)(w':World):Prop:=∃ err m:Int,y=.returned (.tuple #[.int .i64 err,.int .i64 m])/\okI m/\(err=0↔okT e deep)/\(err=0->m=(parts+e.size:Nat))/\Below w.heap.size w w'
theorem Zoo:∀ (e:ExT) (x:Value) (deep parts:Nat) (w:World),deep<=65->parts+e.size<=4096->Zbe w e x ->
 Calls prog 127 #[x,.int .i64 deep,.int .i64 parts] w (Zfn e deep parts w)
 | .nil,x,deep,parts,w,hd,hp,h=>by unfold Zbe at h;exact h.elim
 | .mk op v n kid,x,deep,parts,w,hd,hp,h=>by
   unfold Zbe at h;obtain⟨a,c,rfl,h2,h3,h4,h5⟩:=h;have H5:=Hd h5;have HSZ:Hid ((ExT.mk op v n kid).size=1+sumN n fun i=>(kid i).size):=Hd rfl;have HKS:Hid (∀ i,i<n->(kid i).size<(ExT.mk op v n kid).size):=Hd fun i hi=>ExT.kid_size hi
   have HV:Hid (∀ l hh:Int,l=(Ze3 op).1->hh=(Ze3 op).2->(okT (ExT.mk op v n kid) deep↔deep<=64/\0<=l/\(op=3->0<=v/\v<64)/\(op≠3->v=0)/\l<=n/\(n:Int)<=hh/\∀ i,i<n->okT (kid i) (deep+1))):=by
    refine Hd ?_;rintro l hh rfl rfl;exact Iff.rfl
   have IH:Hid (∀ (i:Nat) (x:Value) (z1 z2:Int) (deep parts:Nat) (W:World),z1=(deep:Int)->z2=(parts:Int)->deep<=65->parts+(kid i).size<=4096->Zbe W (kid i) x->Calls prog 127 #[x,.int .i64 z1,.int .i64 z2] W (Zfn (kid i) deep parts W)) :=
    Hd fun i x z1 z2 deep parts W e1 e2 h1 h2 h3=>by subst e1;subst e2;exact Zoo (kid i) x deep parts W h1 h2 h3
   have HK:=Hd (fun W=>Ztl op W);obtain⟨E,hE⟩:∃ E,E=ExT.mk op v n kid:=⟨_,rfl⟩;have gC:1<=E.size:=E.size_pos;rw[<- hE] at HSZ hp HV HKS ⊢;obtain⟨l,hl⟩:∃ l,l=(Ze3 op).1:=⟨_,rfl⟩;obtain⟨hi,gq⟩:∃ hi,hi=(Ze3 op).2:=⟨_,rfl⟩;rw[<- hl,<- gq] at HK;have g4:=Hd (HV.out l hi hl gq);obtain⟨w1,gl⟩:∃ w1,w1=w.alloc (.cells #[.int .i64 op,.int .i64 v,.slice a n c] 81):=⟨_,rfl⟩;have HW1:Hid (_=w1):=Hd gl.symm;have g8:Hid (Below w.heap.size w w1):=by rw[gl];exact Hd (Zad _ _)
   have gj:w1.heap[w.heap.size]?=some (.cells #[.int .i64 op,.int .i64 v,.slice a n c] 81 (0,0)):=by rw[gl];exact heap_alloc_new _ _
   have hs1:w1.heap.size=w.heap.size+1:=by rw[gl];simp
   have d0:w1.cell? ⟨w.heap.size,0,none⟩=some (.int .i64 op):=by rw[cell_of_row _ _ 0 _ _ _ gj];rfl
   have d1:w1.cell? ⟨w.heap.size,1,none⟩=some (.int .i64 v):=by rw[cell_of_row _ _ 1 _ _ _ gj];rfl
   have d2:w1.cell? ⟨w.heap.size,2,none⟩=some (.slice a n c):=by rw[cell_of_row _ _ 2 _ _ _ gj];rfl
   have g0:Hid (∀ (k m:Int) (W:World),k≠0->¬ okT E deep->okI m->Below w1.heap.size w1 W->Zfn E deep parts w (.returned (.tuple #[.int .i64 k,.int .i64 m])) W) :=
    Hd fun k m W hk gw hm hb=>⟨k,m,rfl,hm,⟨fun e=>(hk e).elim,fun e=>(gw e).elim⟩,fun e=>(hk e).elim,g8.out.trans (hb.mono g8.out.size)⟩
   unfold okI at h2 h3;clear h5 hE gl gj HV hl gq
   go_enter func127,ntmps127
   go_upto_region 1 with fail;rw[HW1.out]
   by_cases gE:(deep:Int)>64
   .
    go_wp2_with fail
    go_ret2
    exact g0.out 17 _ _ (by decide) (fun h=>by have:=(g4.out.1 h).1;omega) (by unfold okI;omega) (Below.refl _ _)
   go_wp2_with fail;refine(HK.out _).mono ?_;rintro y w' ⟨rfl,rfl⟩
   by_cases gD:l<0
   .
    go_wp2_with fail
    go_ret2
    exact g0.out 11 _ _ (by decide) (fun h=>by have:=(g4.out.1 h).2.1;omega) (by unfold okI;omega) (Below.refl _ _)
   have gt:((op == 3)=true/\op=3)\/((op == 3)=false/\(op != 3)=true/\op≠3):=by
    by_cases e:op=3
    . exact .inl ⟨by simp[e],e⟩
    . exact .inr ⟨by simpa using e,by simpa using e,e⟩
   rcases gt with ⟨g1,g2⟩|⟨g1,g2,g3⟩
   .
    subst g2
    by_cases gc:v<0
    .
     go_wp2_with fail
     go_ret2
     exact g0.out 9 _ _ (by decide) (fun h=>by have:=(g4.out.1 h).2.2.1 (by trivial);omega) (by unfold okI;omega) (Below.refl _ _)
    by_cases gu:v>=64
    .
     go_wp2_with fail
     go_ret2
     exact g0.out 9 _ _ (by decide) (fun h=>by have:=(g4.out.1 h).2.2.1 (by trivial);omega) (by unfold okI;omega) (Below.refl _ _)
    have HG:Hid ((3:Int)=3->0<=v/\v<64):=Hd fun _=>⟨by omega,by omega⟩
    have gr:Hid ((3:Int)≠3->v=0):=Hd fun e=>(e rfl).elim
    go_upto_region 9 with fail
    by_cases gx:(n:Int)<l
    .
     go_wp2_with fail
     go_ret2
     exact g0.out 3 _ _ (by decide) (fun h=>by have:=(g4.out.1 h).2.2.2.2.1;omega) (by unfold okI;omega) (Below.refl _ _)
    by_cases gy:(n:Int)>hi
    .
     go_wp2_with fail
     go_ret2
     exact g0.out 3 _ _ (by decide) (fun h=>by have:=(g4.out.1 h).2.2.2.2.2.1;omega) (by unfold okI;omega) (Below.refl _ _)
    go_wp2_with fail
    go_loopw [2,10,11,12] (fun s2 s10 s11 s12 wr=>∃ i p:Nat,i<=n/\p<=4096/\s2=.int .i64 p/\s10=.int .i64 i/\Below w1.heap.size w1 wr/\Hid (p=parts+(1+sumN i fun i=>(kid i).size))/\Hid (∀ j,j<i->okT (kid j) (deep+1))) (fun _ s10 _ _ _=>n-(intOf s10).toNat)
    case atStart=>exact⟨0,parts+1,by omega,by omega,by go_num,rfl,Below.refl _ _,Hd rfl,Hd fun j hj=>by omega⟩
    case round =>
     obtain⟨i,p,gA,gv,rfl,rfl,g9,HP,gh⟩:=hrel;have d2':=(g9.cell (p:=⟨w.heap.size,2,none⟩) (Zaa d2)).trans d2;have g5:=Hd g9;clear g9
     by_cases ge:i<n
     .
      obtain⟨b,off,x0,x1,x2,rfl,c0,c1,c2,hx⟩:=H5.out i ge;have g7:=g8.out.trans (g5.out.mono g8.out.size);have e0:=(g7.cell (p:=⟨b,off+i*3,none⟩) (Zaa c0)).trans c0;have e1:=(g7.cell (p:=⟨b,off+i*3+1,none⟩) (Zaa c1)).trans c1;have e2:=(g7.cell (p:=⟨b,off+i*3+2,none⟩) (Zaa c2)).trans c2;have HX:=Hd (hx.below g7);have gd:p+(kid i).size<=4096:=by
       have s1:(kid i).size+sumN i (fun i=>(kid i).size)<=sumN n fun i=>(kid i).size:=by
        have:=Zgi (f:=fun i=>(kid i).size) ge;omega
       have s2:=HP.out;have s3:=HSZ.out;omega
      have gi:Hid (p+(kid i).size=parts+(1+sumN (i+1) fun i=>(kid i).size)):=Hd (by
       have s2:=HP.out
       show _=parts+(1+(sumN i (fun i=>(kid i).size)+(kid i).size))
       omega)
      have gp:(i:Int)<n:=by omega
      clear c0 c1 c2 hx g7;go_wp2_with fail;refine(IH.out i _ _ _ (deep+1) p _ (by go_num) rfl (by omega) gd HX.out).mono ?_;rintro y w3 ⟨err,m,rfl,hm,gf,gm,gn⟩;have go:=Hd (g5.out.trans (gn.mono g5.out.size));have gg:=Hd gm;have ga:=Hd gf;clear gn gm gf e0 e1 e2;unfold okI at hm
      by_cases g6:err=0
      .
       subst g6;have q1:=ga.out.1 rfl;have q2:=gg.out rfl;obtain⟨p2,hp2⟩:∃ p2,p2=p+(kid i).size:=⟨_,rfl⟩;have gk:Hid (∀ j,j<i+1->okT (kid j) (deep+1)):=Hd fun j hj=>by
        rcases Nat.lt_or_ge j i with h|h
        . exact gh.out j h
        .
         obtain rfl:j=i:=by omega
         exact q1
       rw[<- hp2] at q2 gd gi;subst q2;clear hp2 q1 gg ga;go_wp2_with fail;go_roundw
       case rel=>exact⟨i+1,p2,by omega,by omega,rfl,by go_num,go.out,gi,gk⟩
       case measure=>simp[intOf];omega
      .
       have gz:(err != 0)=true:=by simpa using g6
       have HF:=Hd (g0.out err m w3 g6 (fun h=>g6 (ga.out.2 ((g4.out.1 h).2.2.2.2.2.2 i ge))) hm go.out);clear g6 gg ga;go_wp2_with fail
       go_ret2
       exact HF.out
     .
      have he:i=n:=by omega
      have gp:¬ (i:Int)<n:=by omega
      have HF:Hid (Zfn E deep parts w (.returned (.tuple #[.int .i64 0,.int .i64 (p:Nat)])) wr):=Hd ⟨0,p,rfl,by unfold okI;omega,⟨fun _=>g4.out.2 ⟨by omega,by omega,HG.out,gr.out,by omega,by omega,fun j hj=>gh.out j (by omega)⟩,fun _=>rfl⟩,fun _=>by rw[HP.out,HSZ.out,he],g8.out.trans (g5.out.mono g8.out.size)⟩;go_wp2_with fail
      go_ret2
      exact HF.out
   .
    by_cases gc:v=0
    .
     have gu:(v != 0)=false:=by simp[gc]
     have HG:Hid (op=3->0<=v/\v<64):=Hd fun e=>(g3 e).elim
     have gr:Hid (op≠3->v=0):=Hd fun _=>gc
     clear gc g3;go_upto_region 9 with fail
     by_cases gx:(n:Int)<l
     .
      go_wp2_with fail
      go_ret2
      exact g0.out 3 _ _ (by decide) (fun h=>by have:=(g4.out.1 h).2.2.2.2.1;omega) (by unfold okI;omega) (Below.refl _ _)
     by_cases gy:(n:Int)>hi
     .
      go_wp2_with fail
      go_ret2
      exact g0.out 3 _ _ (by decide) (fun h=>by have:=(g4.out.1 h).2.2.2.2.2.1;omega) (by unfold okI;omega) (Below.refl _ _)
     go_wp2_with fail
     go_loopw [2,10,11,12] (fun s2 s10 s11 s12 wr=>∃ i p:Nat,i<=n/\p<=4096/\s2=.int .i64 p/\s10=.int .i64 i/\Below w1.heap.size w1 wr/\Hid (p=parts+(1+sumN i fun i=>(kid i).size))/\Hid (∀ j,j<i->okT (kid j) (deep+1))) (fun _ s10 _ _ _=>n-(intOf s10).toNat)
     case atStart=>exact⟨0,parts+1,by omega,by omega,by go_num,rfl,Below.refl _ _,Hd rfl,Hd fun j hj=>by omega⟩
     case round =>
      obtain⟨i,p,gA,gv,rfl,rfl,g9,HP,gh⟩:=hrel;have d2':=(g9.cell (p:=⟨w.heap.size,2,none⟩) (Zaa d2)).trans d2;have g5:=Hd g9;clear g9
      by_cases ge:i<n
      .
       obtain⟨b,off,x0,x1,x2,rfl,c0,c1,c2,hx⟩:=H5.out i ge;have g7:=g8.out.trans (g5.out.mono g8.out.size);have e0:=(g7.cell (p:=⟨b,off+i*3,none⟩) (Zaa c0)).trans c0;have e1:=(g7.cell (p:=⟨b,off+i*3+1,none⟩) (Zaa c1)).trans c1;have e2:=(g7.cell (p:=⟨b,off+i*3+2,none⟩) (Zaa c2)).trans c2;have HX:=Hd (hx.below g7);have gd:p+(kid i).size<=4096:=by
        have s1:(kid i).size+sumN i (fun i=>(kid i).size)<=sumN n fun i=>(kid i).size:=by
         have:=Zgi (f:=fun i=>(kid i).size) ge;omega
        have s2:=HP.out;have s3:=HSZ.out;omega
       have gi:Hid (p+(kid i).size=parts+(1+sumN (i+1) fun i=>(kid i).size)):=Hd (by
        have s2:=HP.out
        show _=parts+(1+(sumN i (fun i=>(kid i).size)+(kid i).size))
        omega)
       have gp:(i:Int)<n:=by omega
       clear c0 c1 c2 hx g7;go_wp2_with fail;refine(IH.out i _ _ _ (deep+1) p _ (by go_num) rfl (by omega) gd HX.out).mono ?_;rintro y w3 ⟨err,m,rfl,hm,gf,gm,gn⟩;have go:=Hd (g5.out.trans (gn.mono g5.out.size));have gg:=Hd gm;have ga:=Hd gf;clear gn gm gf e0 e1 e2;unfold okI at hm
       by_cases g6:err=0
       .
        subst g6;have q1:=ga.out.1 rfl;have q2:=gg.out rfl;obtain⟨p2,hp2⟩:∃ p2,p2=p+(kid i).size:=⟨_,rfl⟩;have gk:Hid (∀ j,j<i+1->okT (kid j) (deep+1)):=Hd fun j hj=>by
         rcases Nat.lt_or_ge j i with h|h
         . exact gh.out j h
         .
          obtain rfl:j=i:=by omega
          exact q1
        rw[<- hp2] at q2 gd gi;subst q2;clear hp2 q1 gg ga;go_wp2_with fail;go_roundw
        case rel=>exact⟨i+1,p2,by omega,by omega,rfl,by go_num,go.out,gi,gk⟩
        case measure=>simp[intOf];omega
       .
        have gz:(err != 0)=true:=by simpa using g6
        have HF:=Hd (g0.out err m w3 g6 (fun h=>g6 (ga.out.2 ((g4.out.1 h).2.2.2.2.2.2 i ge))) hm go.out);clear g6 gg ga;go_wp2_with fail
        go_ret2
        exact HF.out
      .
       have he:i=n:=by omega
       have gp:¬ (i:Int)<n:=by omega
       have HF:Hid (Zfn E deep parts w (.returned (.tuple #[.int .i64 0,.int .i64 (p:Nat)])) wr):=Hd ⟨0,p,rfl,by unfold okI;omega,⟨fun _=>g4.out.2 ⟨by omega,by omega,HG.out,gr.out,by omega,by omega,fun j hj=>gh.out j (by omega)⟩,fun _=>rfl⟩,fun _=>by rw[HP.out,HSZ.out,he],g8.out.trans (g5.out.mono g8.out.size)⟩;go_wp2_with fail
       go_ret2
       exact HF.out
    .
     have gu:(v != 0)=true:=by simpa using gc
     have gB:Hid (¬ okT E deep):=Hd fun h=>gc ((g4.out.1 h).2.2.2.1 g3)
     clear gc g3;go_wp2_with fail
     go_ret2
     exact g0.out 9 _ _ (by decide) gB.out (by unfold okI;omega) (Below.refl _ _)
open Go.RowKit
theorem Zh3 (e:ExT)(x:Value)(w:World)(hs:e.size<=4096)(h:Zbe w e x) :
 Calls prog 69 #[x] w fun y w'=>∃ err:Int,y=.returned (.int .i64 err)/\(err=0↔okT e 1)/\Below w.heap.size w w':=by
 have HC:Hid (∀ W,Below w.heap.size w W->∀ u,u=x->Calls prog 127 #[u,.int .i64 1,.int .i64 0] W (Zfn e 1 0 W)):=Hd fun W hb u hu=>by subst hu;exact Zoo e _ 1 0 W (by omega) (by omega) (h.below hb)
 obtain⟨x0,x1,x2,hx⟩:∃ x0 x1 x2,x=.agg #[x0,x1,x2]:=by
  cases e with
  | nil=>unfold Zbe at h;exact h.elim
  | mk op v n kid =>
    unfold Zbe at h;obtain⟨a,c,rfl,_⟩:=h;exact⟨_,_,_,rfl⟩
 subst hx;obtain⟨w1,g1⟩:∃ w1,w1=w.alloc (.cells #[x0,x1,x2] 81):=⟨_,rfl⟩;have HW1:Hid (_=w1):=Hd g1.symm;have g2:Hid (Below w.heap.size w w1):=by rw[g1];exact Hd (Zad _ _)
 have g0:w1.heap[w.heap.size]?=some (.cells #[x0,x1,x2] 81 (0,0)):=by rw[g1];exact heap_alloc_new _ _
 have d0:w1.cell? ⟨w.heap.size,0,none⟩=some x0:=by rw[cell_of_row _ _ 0 _ _ _ g0];rfl
 have d1:w1.cell? ⟨w.heap.size,1,none⟩=some x1:=by rw[cell_of_row _ _ 1 _ _ _ g0];rfl
 have d2:w1.cell? ⟨w.heap.size,2,none⟩=some x2:=by rw[cell_of_row _ _ 2 _ _ _ g0];rfl
 have g3:x0.cells=#[x0]/\x1.cells=#[x1]/\x2.cells=#[x2]:=by
  cases e with
  | nil=>unfold Zbe at h;exact h.elim
  | mk op v n kid =>
    unfold Zbe at h;obtain⟨a,c,h1,_⟩:=h;cases h1;exact⟨rfl,rfl,rfl⟩
 obtain⟨o0,o1,o2⟩:=g3;clear h g1 g0
 go_enter func69,ntmps69
 go_upto_region 1 with fail;rw[HW1.out];go_wp2_with fail;refine(HC.out _ g2.out _ rfl).mono ?_;rintro y w2 ⟨err,m,rfl,hm,hv,_,hb⟩;have HF:Hid (∃ err':Int,Ending.returned (.int .i64 err)=.returned (.int .i64 err')/\(err'=0↔okT e 1)/\Below w.heap.size w w2):=Hd ⟨err,rfl,hv,g2.out.trans (hb.mono g2.out.size)⟩;clear hv hb;go_wp2_with fail;go_ret;exact HF.out
def Zht:Nat->(Nat->List Int)->List Int
 | 0,_=>[]
 | k+1,f=>Zht k f++f k
def Zc4:ExT->List Int
 | .nil=>[]
 | .mk op v n kid=>(if op=3 then [v] else [])++Zht n fun i=>Zc4 (kid i)
theorem Zim {f:Nat->List Int}{g:Nat->Nat}:∀ (n:Nat),(∀ i,i<n->(f i).length<=g i)->(Zht n f).length<=sumN n g
 | 0,_=>Nat.le_refl _
 | k+1,h=>by
   show (Zht k f++f k).length<=sumN k g+g k
   rw[List.length_append];have:=Zim (f:=f) (g:=g) k (fun i hi=>h i (by omega));have:=h k (by omega);omega
theorem Zf0:∀ e:ExT,(Zc4 e).length<=e.size
 | .nil=>by simp[Zc4]
 | .mk op v n kid=>by
   show ((if op=3 then [v] else [])++Zht n fun i=>Zc4 (kid i)).length<=1+sumN n fun i=>(kid i).size
   rw[List.length_append];have h1:=Zim (f:=fun i=>Zc4 (kid i)) (g:=fun i=>(kid i).size) n (fun i _=>Zf0 (kid i));have h2:(if op=3 then [v] else []:List Int).length<=1:=by split<;>simp
   omega
theorem OwnI.lower {w:World}{base b:Nat}{v:Value}{zs:List Int}(h:OwnI w base v zs)(hb:b<=base):OwnI w b v zs:=by
 refine⟨h.1,?_⟩;rcases h.2 with hn|⟨g,cap,cur,rfl,g0,rest⟩
 . exact .inl hn
 . exact .inr ⟨g,cap,cur,rfl,by omega,rest⟩
theorem Zm1:∀ (e:ExT) (x:Value) (w:World),e.size<=4096->Zbe w e x ->
 Calls prog 128 #[x] w fun y w'=>∃ u,y=.returned u/\OwnI w' w.heap.size u (Zc4 e)/\Below w.heap.size w w'
 | .nil,x,w,hp,h=>by unfold Zbe at h;exact h.elim
 | .mk op v n kid,x,w,hp,h=>by
   unfold Zbe at h;obtain⟨a,c,rfl,h2,h3,h4,h5⟩:=h;have H5:=Hd h5;have HSZ:Hid ((ExT.mk op v n kid).size=1+sumN n fun i=>(kid i).size):=Hd rfl;have HKS:Hid (∀ i,i<n->(kid i).size<(ExT.mk op v n kid).size):=Hd fun i hi=>ExT.kid_size hi
   have HVT:Hid (Zc4 (ExT.mk op v n kid)=(if op=3 then [v] else [])++Zht n fun i=>Zc4 (kid i)):=Hd rfl;have IH:Hid (∀ (i:Nat) (x:Value) (W:World),(kid i).size<=4096->Zbe W (kid i) x->Calls prog 128 #[x] W fun y w'=>∃ u,y=.returned u/\OwnI w' W.heap.size u (Zc4 (kid i))/\Below W.heap.size W w') :=
    Hd fun i x W h1 h2=>Zm1 (kid i) x W h1 h2
   obtain⟨E,hE⟩:∃ E,E=ExT.mk op v n kid:=⟨_,rfl⟩;rw[<- hE] at HSZ hp HVT HKS ⊢;obtain⟨w1,hw1⟩:∃ w1,w1=w.alloc (.cells #[.int .i64 op,.int .i64 v,.slice a n c] 81):=⟨_,rfl⟩;have HW1:Hid (_=w1):=Hd hw1.symm;have HB1:Hid (Below w.heap.size w w1):=by rw[hw1];exact Hd (Zad _ _)
   have g9:w1.heap[w.heap.size]?=some (.cells #[.int .i64 op,.int .i64 v,.slice a n c] 81 (0,0)):=by rw[hw1];exact heap_alloc_new _ _
   have hs1:w1.heap.size=w.heap.size+1:=by rw[hw1];simp
   have d0:w1.cell? ⟨w.heap.size,0,none⟩=some (.int .i64 op):=by rw[cell_of_row _ _ 0 _ _ _ g9];rfl
   have d1:w1.cell? ⟨w.heap.size,1,none⟩=some (.int .i64 v):=by rw[cell_of_row _ _ 1 _ _ _ g9];rfl
   have d2:w1.cell? ⟨w.heap.size,2,none⟩=some (.slice a n c):=by rw[cell_of_row _ _ 2 _ _ _ g9];rfl
   unfold okI at h2 h3;obtain⟨w2,ge⟩:∃ w2,w2=w1.alloc (.cells #[] 3):=⟨_,rfl⟩;have gr:Hid (_=w2):=Hd ge.symm;have HB2:Hid (Below w1.heap.size w1 w2):=by rw[ge];exact Hd (Zad _ _)
   have gj:Hid (OwnI w2 w1.heap.size (.slice (some ⟨w.heap.size+1,0,none⟩) 0 0) []):=by rw[ge,<- hs1];exact Hd (Zhk _ _ (Nat.le_refl _))
   clear h5 hE hw1 ge g9
   go_enter func128,ntmps128
   go_upto_region 1 with fail;rw[HW1.out];go_upto_region 2 with fail;obtain⟨Z,hZ⟩:∃ Z:List Int,Z=if op=3 then [v] else []:=⟨_,rfl⟩
   have HZ:=Hd hZ;have gm:Hid (Z.length<=1):=Hd (by rw[hZ];split<;>simp);rw[gr.out];have gl:w1.heap.size<=w2.heap.size:=HB2.out.size;have d0':=(HB2.out.cell (p:=⟨w.heap.size,0,none⟩) (Zaa d0)).trans d0;have d1':=(HB2.out.cell (p:=⟨w.heap.size,1,none⟩) (Zaa d1)).trans d1
   by_cases h3:op=3
   .
    rw[if_pos h3] at hZ;subst h3;clear h2;go_wp2_with (at_builtin;refine Zcm _ rfl _ _ rfl w1.heap.size w1 _ [] _ rfl rfl rfl rfl (by exact gj.out) (by simp) gl HB2.out ?_;intro v3 w3 gk g7 go _)
    go_loopw [3,4] (fun s3 s4 wr=>∃ i:Nat,i<=n/\s4=.int .i64 i/\Below w1.heap.size w1 wr/\OwnI wr w1.heap.size s3 (Z++Zht i fun i=>Zc4 (kid i))/\w1.heap.size<=wr.heap.size) (fun _ s4 _=>n-(intOf s4).toNat)
    case atStart=>exact⟨0,Nat.zero_le _,rfl,g7,by rw[hZ];simpa [Zht] using gk,go⟩
    case round =>
     obtain⟨i,gq,rfl,g2,g5,gn⟩:=hrel;have d2':=(g2.cell (p:=⟨w.heap.size,2,none⟩) (Zaa d2)).trans d2;have g0:=Hd g2;have gc:=Hd g5;clear g2 g5
     by_cases g6:i<n
     .
      obtain⟨b,off,x0,x1,x2,rfl,c0,c1,c2,hx⟩:=H5.out i g6;have g1:=HB1.out.trans (g0.out.mono HB1.out.size);have e0:=(g1.cell (p:=⟨b,off+i*3,none⟩) (Zaa c0)).trans c0;have e1:=(g1.cell (p:=⟨b,off+i*3+1,none⟩) (Zaa c1)).trans c1;have e2:=(g1.cell (p:=⟨b,off+i*3+2,none⟩) (Zaa c2)).trans c2;have HX:=Hd (hx.below g1);have gh:(i:Int)<n:=by omega
      have gp:=HKS.out i g6
      have gd:Hid ((Z++Zht i fun i=>Zc4 (kid i)).length+(Zc4 (kid i)).length<=4096):=Hd (by
       have s1:=Zgi (f:=fun i=>(kid i).size) g6;have s2:=HSZ.out;have s3:=Zim (f:=fun i=>Zc4 (kid i)) (g:=fun i=>(kid i).size) i (fun i _=>Zf0 (kid i));have s4:=Zf0 (kid i);have s5:=gm.out;rw[List.length_append];omega)
      clear c0 c1 c2 hx g1;go_upto_region 7 with fail
      go_wp2_with (first
       | (go_at_call 128;refine(IH.out i _ _ (by omega) HX.out).mono ?_;rintro y w3 ⟨u,rfl,hu,g7⟩;obtain⟨au,cu,rfl,ga,gf⟩:=hu.sliceIs (by have:=gd.out;omega);have HU:=Hd ga;have g8:=Hd g7;clear hu ga g7)
       | (at_builtin;refine Zcn rfl _ _ rfl w1.heap.size w1 _ (Z++Zht i fun i=>Zc4 (kid i)) (Zc4 (kid i)) au cu rfl rfl (by exact gc.out.below g8.out) (by exact HU.out) (by have:=gd.out;omega) (by have:=g8.out.size;omega) (by exact g0.out.trans (g8.out.mono g0.out.size)) gf ?_;intro v4 w4 g4 gi gg _))
      go_roundw
      case rel=>exact⟨i+1,by omega,by go_num,gi,by rw[List.append_assoc] at g4;exact g4,gg⟩
      case measure=>simp[intOf];omega
     .
      have he:i=n:=by omega
      have gh:¬ (i:Int)<n:=by omega
      have HF:Hid (∃ u,Ending.returned u3=.returned u/\OwnI wr w.heap.size u (Zc4 E)/\Below w.heap.size w wr):=Hd ⟨u3,rfl,by rw[HVT.out,<- HZ.out,<- he];exact gc.out.lower (by omega),HB1.out.trans (g0.out.mono HB1.out.size)⟩;go_wp2_with fail;go_ret;exact HF.out
   .
    rw[if_neg h3] at hZ;have g3:(op == 3)=false:=by simpa using h3
    clear h3;go_wp2_with fail
    go_loopw [3,4] (fun s3 s4 wr=>∃ i:Nat,i<=n/\s4=.int .i64 i/\Below w1.heap.size w1 wr/\OwnI wr w1.heap.size s3 (Z++Zht i fun i=>Zc4 (kid i))/\w1.heap.size<=wr.heap.size) (fun _ s4 _=>n-(intOf s4).toNat)
    case atStart=>exact⟨0,Nat.zero_le _,rfl,HB2.out,by rw[hZ];simpa [Zht] using gj.out,gl⟩
    case round =>
     obtain⟨i,gq,rfl,g2,g5,gn⟩:=hrel;have d2':=(g2.cell (p:=⟨w.heap.size,2,none⟩) (Zaa d2)).trans d2;have g0:=Hd g2;have gc:=Hd g5;clear g2 g5
     by_cases g6:i<n
     .
      obtain⟨b,off,x0,x1,x2,rfl,c0,c1,c2,hx⟩:=H5.out i g6;have g1:=HB1.out.trans (g0.out.mono HB1.out.size);have e0:=(g1.cell (p:=⟨b,off+i*3,none⟩) (Zaa c0)).trans c0;have e1:=(g1.cell (p:=⟨b,off+i*3+1,none⟩) (Zaa c1)).trans c1;have e2:=(g1.cell (p:=⟨b,off+i*3+2,none⟩) (Zaa c2)).trans c2;have HX:=Hd (hx.below g1);have gh:(i:Int)<n:=by omega
      have gp:=HKS.out i g6
      have gd:Hid ((Z++Zht i fun i=>Zc4 (kid i)).length+(Zc4 (kid i)).length<=4096):=Hd (by
       have s1:=Zgi (f:=fun i=>(kid i).size) g6;have s2:=HSZ.out;have s3:=Zim (f:=fun i=>Zc4 (kid i)) (g:=fun i=>(kid i).size) i (fun i _=>Zf0 (kid i));have s4:=Zf0 (kid i);have s5:=gm.out;rw[List.length_append];omega)
      clear c0 c1 c2 hx g1;go_upto_region 7 with fail
      go_wp2_with (first
       | (go_at_call 128;refine(IH.out i _ _ (by omega) HX.out).mono ?_;rintro y w3 ⟨u,rfl,hu,g7⟩;obtain⟨au,cu,rfl,ga,gf⟩:=hu.sliceIs (by have:=gd.out;omega);have HU:=Hd ga;have g8:=Hd g7;clear hu ga g7)
       | (at_builtin;refine Zcn rfl _ _ rfl w1.heap.size w1 _ (Z++Zht i fun i=>Zc4 (kid i)) (Zc4 (kid i)) au cu rfl rfl (by exact gc.out.below g8.out) (by exact HU.out) (by have:=gd.out;omega) (by have:=g8.out.size;omega) (by exact g0.out.trans (g8.out.mono g0.out.size)) gf ?_;intro v4 w4 g4 gi gg _))
      go_roundw
      case rel=>exact⟨i+1,by omega,by go_num,gi,by rw[List.append_assoc] at g4;exact g4,gg⟩
      case measure=>simp[intOf];omega
     .
      have he:i=n:=by omega
      have gh:¬ (i:Int)<n:=by omega
      have HF:Hid (∃ u,Ending.returned u3=.returned u/\OwnI wr w.heap.size u (Zc4 E)/\Below w.heap.size w wr):=Hd ⟨u3,rfl,by rw[HVT.out,<- HZ.out,<- he];exact gc.out.lower (by omega),HB1.out.trans (g0.out.mono HB1.out.size)⟩;go_wp2_with fail;go_ret;exact HF.out
open Go.RowKit
theorem Zo9 (a:Option Addr)(c:Nat)(zs:List Int)(v:Int)(w:World)(hl:zs.length<=1000000)(h:Za4 w a zs) :
 Calls prog 76 #[.slice a zs.length c,.int .i64 v] w fun y w'=>y=.returned (.bool (decide (v∈zs)))/\w=w':=by
 have HI:=Hd h;clear h;have g4:Hid ((∀ j,j<zs.length->at0 zs j≠v)->decide (v∈zs)=false):=Hd fun hh=>decide_eq_false fun hm=>by
  obtain⟨j,hj,e⟩:=List.getElem_of_mem hm;exact hh j hj (by rw[Za8 hj];exact e)
 have g2:Hid (∀ j,j<zs.length->at0 zs j=v->decide (v∈zs)=true):=Hd fun j hj e=>decide_eq_true (by rw[Za8 hj] at e;rw[<- e];exact List.getElem_mem hj)
 go_enter func76,ntmps76
 go_wp2_with fail
 go_loopw [5] (fun s5 wr=>∃ i:Nat,i<=zs.length/\s5=.int .i64 i/\w=wr/\Hid (∀ j,j<i->at0 zs j≠v)) (fun s5 _=>zs.length-(intOf s5).toNat)
 case atStart=>exact⟨0,Nat.zero_le _,rfl,rfl,Hd fun j hj=>by omega⟩
 case round =>
  obtain⟨i,hi,rfl,rfl,HN⟩:=hrel
  by_cases g1:i<zs.length
  .
   obtain⟨b,off,rfl,hc⟩:=HI.out.cells i g1;have g3:(i:Int)<zs.length:=by omega
   obtain⟨z,hz⟩:∃ z,z=at0 zs i:=⟨_,rfl⟩;rw[<- hz] at hc
   by_cases he:z=v
   . have HY:=Hd (g2.out i g1 (by rw[<- hz,he]));subst he;clear hz;go_wp2_with fail;go_ret;exact⟨by rw[HY.out];rfl,rfl⟩
   .
    have g5:(z == v)=false:=by simpa using he
    have g0:Hid (∀ j,j<i+1->at0 zs j≠v):=Hd fun j hj=>by
     rcases Nat.lt_or_ge j i with h|h
     . exact HN.out j h
     .
      obtain rfl:j=i:=by omega
      rw[<- hz];exact he
    clear hz he;go_wp2_with fail;go_roundw
    case rel=>exact⟨i+1,by omega,by go_num,by simp,g0⟩
    case measure=>simp[intOf];omega
  .
   have g0:=Hd (g4.out fun j hj=>HN.out j (by omega));have g3:¬ (i:Int)<zs.length:=by omega
   go_wp2_with fail;go_ret;exact⟨by rw[g0.out];rfl,rfl⟩
structure PutS (zs:List Int)(v:Int)(i:Nat)(d:Bool)(os:List Int):Prop where
 mem:∀ x,x∈os↔x∈zs.take i\/(d=true/\x=v)
 len:os.length=i+if d then 1 else 0
 srt:os.Pairwise (· < ·)
 low:d=false->∀ x∈os,x<v
 up:d=true->∀ x∈os,∀ y∈zs.drop i,x<y
theorem Zsj {os:List Int}{z:Int}(h:os.Pairwise (· < ·))(hz:∀ x∈os,x<z):(os++[z]).Pairwise (· < ·) :=
 List.pairwise_append.2 ⟨h,List.pairwise_singleton ..,fun x hx y hy=>by rw[List.mem_singleton.1 hy];exact hz x hx⟩
theorem Zsi {zs:List Int}(hs:zs.Pairwise (· < ·)){i:Nat}(hi:i<zs.length):(∀ y∈zs.drop i,at0 zs i<=y)/\(∀ y∈zs.drop (i+1),at0 zs i<y)/\(∀ x∈zs.take i,x<at0 zs i):=by
 have e:zs.drop i=at0 zs i::zs.drop (i+1):=by rw[Za8 hi];exact(List.drop_eq_getElem_cons hi)
 have hd:(zs.drop i).Pairwise (· < ·):=hs.sublist (List.drop_sublist ..);rw[e,List.pairwise_cons] at hd;have h2:=hs;rw[<- List.take_append_drop i zs,List.pairwise_append] at h2;refine⟨fun y hy=>?_,hd.1,fun x hx=>h2.2.2 x hx _ (by rw[e];exact List.mem_cons_self ..)⟩;rw[e] at hy;rcases List.mem_cons.1 hy with h|h
 . omega
 . have:=hd.1 y h;omega
theorem PutS.here {zs:List Int}{v:Int}{i:Nat}{os:List Int}(h:PutS zs v i false os)(hu:∀ y∈zs.drop i,v<y):PutS zs v i true (os++[v]):=by
 refine⟨fun x=>?_,by simp[h.len],Zsj h.srt (h.low rfl),by simp,fun _ x hx y hy=>?_⟩
 . have:=h.mem x;simp only[Bool.false_eq_true,false_and,or_false] at this;simp[this]
 .
  rcases List.mem_append.1 hx with h1|h1
  . have:=h.low rfl x h1;have:=hu y hy;omega
  . rw[List.mem_singleton.1 h1];exact hu y hy
theorem PutS.next {zs:List Int}{v:Int}{i:Nat}{d:Bool}{os:List Int}(h:PutS zs v i d os)(hs:zs.Pairwise (· < ·))(hi:i<zs.length)(hd:d=false->at0 zs i<v):PutS zs v (i+1) d (os++[at0 zs i]):=by
 obtain⟨q1,q2,q3⟩:=Zsi hs hi;have g0:∀ x∈os,x<at0 zs i:=fun x hx=>by
  cases d with
  | true=>exact h.up rfl x hx _ (by rw[List.drop_eq_getElem_cons hi,Za8 hi];exact List.mem_cons_self ..)
  | false =>
    rcases(h.mem x).1 hx with h1|⟨h1,_⟩
    . exact q3 x h1
    . cases h1
 refine⟨fun x=>?_,by have:=h.len;simp[this];omega,Zsj h.srt g0,fun e x hx=>?_,fun e x hx y hy=>?_⟩
 .
  rw[List.take_succ_eq_append_getElem hi,List.mem_append,List.mem_append,h.mem x,Za8 hi];simp only[List.mem_singleton];constructor
  .
   rintro((h1|h1)|h1)
   . exact .inl (.inl h1)
   . exact .inr h1
   . exact .inl (.inr h1)
  .
   rintro((h1|h1)|h1)
   . exact .inl (.inl h1)
   . exact .inr h1
   . exact .inl (.inr h1)
 .
  rcases List.mem_append.1 hx with h1|h1
  . exact h.low e x h1
  . rw[List.mem_singleton.1 h1];exact hd e
 .
  have g1:=q2 y hy;rcases List.mem_append.1 hx with h1|h1
  . have:=g0 x h1;omega
  . rw[List.mem_singleton.1 h1];exact g1
theorem Zwq (a:Option Addr)(c:Nat)(zs:List Int)(v:Int)(w:World)(hl:zs.length<=1000000)(h:Za4 w a zs)(hsr:zs.Pairwise (· < ·))(hnm:v∉zs) :
 Calls prog 133 #[.slice a zs.length c,.int .i64 v] w fun y w'=>∃ u os,y=.returned u/\OwnI w' w.heap.size u os/\((∀ x,x∈os↔x∈zs\/x=v)/\os.Pairwise (· < ·))/\os.length=zs.length+1/\Below w.heap.size w w':=by
 have HI:=Hd h;have g9:=Hd hsr;have gi:Hid (∀ i,i<zs.length->at0 zs i≠v):=Hd fun i hi e=>hnm (by rw[<- e,Za8 hi];exact List.getElem_mem hi)
 clear h hsr hnm;have ga:Hid (∀ os,PutS zs v zs.length true os->((∀ x,x∈os↔x∈zs\/x=v)/\os.Pairwise (· < ·))/\os.length=zs.length+1):=Hd fun os h=>⟨⟨fun x=>by have:=h.mem x;rw[List.take_length] at this;simpa using this,h.srt⟩,by simpa using h.len⟩
 go_enter func133,ntmps133
 go_wp2_with fail
 go_loopw [5,6,7] (fun s5 s6 s7 wr=>∃ (i:Nat) (d:Bool) (os:List Int),i<=zs.length/\s6=.bool d/\s7=.int .i64 i/\OwnI wr w.heap.size s5 os/\w.heap.size<=wr.heap.size/\Below w.heap.size w wr/\Hid (PutS zs v i d os)) (fun _ _ s7 _=>zs.length-(intOf s7).toNat)
 case atStart=>exact⟨0,false,[],Nat.zero_le _,rfl,rfl,Zhk w _ (Nat.le_refl _),by simp,Zad w _,Hd ⟨fun x=>by simp,by simp,List.Pairwise.nil,by simp,by simp⟩⟩
 case round =>
  obtain⟨i,d,os,hi,rfl,rfl,g7,g8,g5,HP⟩:=hrel;have gk:os.length<=i+1:=by rw[HP.out.len];split<;>omega
  by_cases g4:i<zs.length
  .
   obtain⟨b,off,rfl,hc⟩:=(HI.out.below g5).cells i g4;have g6:=Hd g7;have g3:=Hd g5;have gg:(i:Int)<zs.length:=by omega
   obtain⟨z,hz⟩:∃ z,z=at0 zs i:=⟨_,rfl⟩;rw[<- hz] at hc;have HZ:=Hd hz;clear g7 g5 hz;cases d with
   | true =>
     go_wp2_with (at_builtin;refine Zcm _ rfl _ _ rfl w.heap.size w _ os _ rfl rfl rfl rfl (by exact g6.out) (by omega) g8 g3.out ?_;intro v1 w1 g1 g0 g2 _);go_roundw
     case rel=>exact⟨i+1,true,_,by omega,rfl,by go_num,g1,g2,g0,Hd (by rw[HZ.out];exact HP.out.next g9.out g4 (by simp))⟩
     case measure=>simp[intOf];omega
   | false =>
     by_cases gl:z>v
     .
      have cne:∀ W:World,Below wr.heap.size wr W->W.cell? ⟨b,off+i,none⟩=some (.int .i64 z):=fun W hb=>(hb.cell (p:=⟨b,off+i,none⟩) (Zaa hc)).trans hc
      have gf:b<w.heap.size:=by
       obtain⟨b',o',e,c'⟩:=HI.out.cells i g4;cases e;exact Zaa c'
      go_upto_region 8 with (at_builtin;refine Zcm _ rfl _ _ rfl w.heap.size w _ os _ rfl rfl rfl rfl (by exact g6.out) (by omega) g8 g3.out ?_;intro v1 w1 g1 g0 g2 _)
      have gm:w1.cell? ⟨b,off+i,none⟩=some (.int .i64 z):=by
       obtain⟨b',o',e,c'⟩:=HI.out.cells i g4;cases e;rw[(g0.cell (p:=⟨b,off+i,none⟩) gf),HZ.out];exact c'
      have gh:=Hd g1;have gj:=Hd g0;clear g1 g0 hc cne;go_wp2_with (at_builtin;refine Zcm _ rfl _ _ rfl w.heap.size w _ (os++[v]) _ rfl rfl rfl rfl (by exact gh.out) (by simp;omega) g2 gj.out ?_;intro v2 w2 gc gd ge _);go_roundw
      case rel=>exact⟨i+1,true,_,by omega,rfl,by go_num,gc,ge,gd,Hd (by rw[HZ.out];exact(HP.out.here fun y hy=>by have:=(Zsi g9.out g4).1 y hy;have:=HZ.out;omega).next g9.out g4 (by simp))⟩
      case measure=>simp[intOf];omega
     .
      go_wp2_with (at_builtin;refine Zcm _ rfl _ _ rfl w.heap.size w _ os _ rfl rfl rfl rfl (by exact g6.out) (by omega) g8 g3.out ?_;intro v1 w1 g1 g0 g2 _);go_roundw
      case rel=>exact⟨i+1,false,_,by omega,rfl,by go_num,g1,g2,g0,Hd (by rw[HZ.out];exact HP.out.next g9.out g4 fun _=>by have:=gi.out i g4;have:=HZ.out;omega)⟩
      case measure=>simp[intOf];omega
  .
   have he:i=zs.length:=by omega
   have gg:¬ (i:Int)<zs.length:=by omega
   have g6:=Hd g7;have g3:=Hd g5;have HE:=Hd he;clear g7 g5 he;cases d with
   | true =>
     have HF:=ga.out os (by rw[<- HE.out];exact HP.out);go_wp2_with fail;go_ret;exact⟨_,rfl,os,g6.out,HF.1,HF.2,g3.out⟩
   | false =>
     have HF:=Hd (ga.out (os++[v]) (by rw[<- HE.out];exact HP.out.here (by rw[HE.out];simp)));go_wp2_with (at_builtin;refine Zcm _ rfl _ _ rfl w.heap.size w _ os _ rfl rfl rfl rfl (by exact g6.out) (by omega) g8 g3.out ?_;intro v1 w1 g1 g0 g2 _);go_ret;exact⟨_,rfl,_,g1,HF.out.1,HF.out.2,g0⟩
theorem Ziq {zs:List Int}{i:Nat}(hi:i<zs.length)(x:Int):x∈zs.take (i+1)↔x∈zs.take i\/x=at0 zs i:=by
 rw[List.take_succ_eq_append_getElem hi,List.mem_append,Za8 hi,List.mem_singleton]
theorem Zr8 (a:Option Addr)(c:Nat)(zs:List Int)(w:World)(hl:zs.length<=900000)(h:Za4 w a zs) :
 Calls prog 75 #[.slice a zs.length c] w fun y w'=>∃ u os,y=.returned u/\OwnI w' w.heap.size u os/\((∀ x,x∈os↔x∈zs)/\os.Pairwise (· < ·))/\os.length<=zs.length/\Below w.heap.size w w':=by
 have HI:=Hd h;clear h
 go_enter func75,ntmps75
 go_wp2_with fail
 go_loopw [3,4] (fun s3 s4 wr=>∃ (i:Nat) (os:List Int),i<=zs.length/\s4=.int .i64 i/\OwnI wr w.heap.size s3 os/\w.heap.size<=wr.heap.size/\Below w.heap.size w wr/\os.length<=i/\Hid ((∀ x,x∈os↔x∈zs.take i)/\os.Pairwise (· < ·))) (fun _ s4 _=>zs.length-(intOf s4).toNat)
 case atStart=>exact⟨0,[],Nat.zero_le _,rfl,Zhk w _ (Nat.le_refl _),by simp,Zad w _,by simp,Hd ⟨fun x=>by simp,List.Pairwise.nil⟩⟩
 case round =>
  obtain⟨i,os,hi,rfl,g0,g6,g1,gk,HP⟩:=hrel
  by_cases gd:i<zs.length
  .
   obtain⟨b,off,rfl,hc⟩:=(HI.out.below g1).cells i gd;have gg:(i:Int)<zs.length:=by omega
   obtain⟨z,hz⟩:∃ z,z=at0 zs i:=⟨_,rfl⟩;rw[<- hz] at hc;obtain⟨ao,co,rfl,g8,gj⟩:=g0.sliceIs (by omega);have g4:=Hd (Zo9 ao co os z wr (by omega) g8);have g3:Hid (z∉os->_):=Hd fun h=>Zwq ao co os z wr (by omega) g8 HP.out.2 h
   have ga:=Hd g0;have g5:=Hd g1;have HT:=Hd (Ziq gd);have HZ:=Hd hz;clear g0 g1 hz g8
   by_cases hm:z∈os
   .
    have hb:decide (z∈os)=true:=by simp[hm]
    rw[hb] at g4
    have gc:Hid ((∀ x,x∈os↔x∈zs.take (i+1))/\os.Pairwise (· < ·)):=Hd ⟨fun x=>by
     rw[HT.out x,<- HZ.out];constructor
     . intro h;exact .inl ((HP.out.1 x).1 h)
     .
      rintro(h|rfl)
      . exact(HP.out.1 x).2 h
      . exact hm,HP.out.2⟩
    clear hm hb g3;go_wp2_with fail;refine g4.out.mono ?_;rintro y w' ⟨rfl,rfl⟩;go_wp2_with fail;go_roundw
    case rel=>exact⟨i+1,os,by omega,by go_num,ga.out,g6,g5.out,by omega,gc⟩
    case measure=>simp[intOf];omega
   .
    have hb:decide (z∈os)=false:=by simp[hm]
    rw[hb] at g4;have g3:=Hd (g3.out hm);clear hm hb;go_wp2_with fail;refine g4.out.mono ?_;rintro y w' ⟨rfl,rfl⟩;go_wp2_with fail;refine g3.out.mono ?_;rintro y w2 ⟨u,os2,rfl,g7,g2,gi,g9⟩
    have gc:Hid ((∀ x,x∈os2↔x∈zs.take (i+1))/\os2.Pairwise (· < ·)):=Hd ⟨fun x=>by
     rw[g2.1 x,HT.out x,<- HZ.out,HP.out.1 x],g2.2⟩
    have gh:Hid (OwnI w2 w.heap.size u os2):=Hd (g7.lower g6);have HB2:=Hd (g5.out.trans (g9.mono g6));have gf:w.heap.size<=w2.heap.size:=Nat.le_trans g6 g9.size;clear g7 g2 g9;go_wp2_with fail;go_roundw
    case rel=>exact⟨i+1,os2,by omega,by go_num,gh.out,gf,HB2.out,by omega,gc⟩
    case measure=>simp[intOf];omega
  .
   have he:i=zs.length:=by omega
   have gg:¬ (i:Int)<zs.length:=by omega
   have ga:=Hd g0;have g5:=Hd g1;have HM:Hid ((∀ x,x∈os↔x∈zs)/\os.Pairwise (· < ·)):=Hd ⟨fun x=>by have:=HP.out.1 x;rw[he,List.take_length] at this;exact this,HP.out.2⟩;have ge:os.length<=zs.length:=by omega
   clear g0 g1 he;go_wp2_with fail;go_ret;exact⟨_,rfl,os,ga.out,HM.out,ge,g5.out⟩
theorem Zbe.agg {w:World}{e:ExT}{x:Value}(h:Zbe w e x):∃ x0 x1 x2,x=.agg #[x0,x1,x2]/\x0.cells=#[x0]/\x1.cells=#[x1]/\x2.cells=#[x2]:=by
 cases e with
 | nil=>unfold Zbe at h;exact h.elim
 | mk op v n kid =>
   unfold Zbe at h;obtain⟨a,c,rfl,_⟩:=h;exact⟨_,_,_,rfl,rfl,rfl,rfl⟩
theorem Zoc (e:ExT)(x:Value)(w:World)(hs:e.size<=4096)(h:Zbe w e x) :
 Calls prog 70 #[x] w fun y w'=>∃ u os,y=.returned u/\SliceIs w' u os/\os.length<=4096/\(okT e 1->(∀ v,v∈os↔v∈Zc4 e)/\os.Pairwise (· < ·))/\Below w.heap.size w w':=by
 have HC:Hid (∀ W,Below w.heap.size w W->∀ u,u=x->Calls prog 69 #[u] W fun y w'=>∃ err:Int,y=.returned (.int .i64 err)/\(err=0↔okT e 1)/\Below W.heap.size W w'):=Hd fun W hb u hu=>by subst hu;exact Zh3 e _ W hs (h.below hb)
 have HV:Hid (∀ W,Below w.heap.size w W->∀ u,u=x->Calls prog 128 #[u] W fun y w'=>∃ u,y=.returned u/\OwnI w' W.heap.size u (Zc4 e)/\Below W.heap.size W w'):=Hd fun W hb u hu=>by subst hu;exact Zm1 e _ W hs (h.below hb)
 have ge:=Zf0 e;obtain⟨x0,x1,x2,hx,o0,o1,o2⟩:=h.agg;subst hx;obtain⟨w1,g2⟩:∃ w1,w1=w.alloc (.cells #[x0,x1,x2] 81):=⟨_,rfl⟩;have HW1:Hid (_=w1):=Hd g2.symm;have g6:Hid (Below w.heap.size w w1):=by rw[g2];exact Hd (Zad _ _)
 have g0:w1.heap[w.heap.size]?=some (.cells #[x0,x1,x2] 81 (0,0)):=by rw[g2];exact heap_alloc_new _ _
 have d0:w1.cell? ⟨w.heap.size,0,none⟩=some x0:=by rw[cell_of_row _ _ 0 _ _ _ g0];rfl
 have d1:w1.cell? ⟨w.heap.size,1,none⟩=some x1:=by rw[cell_of_row _ _ 1 _ _ _ g0];rfl
 have d2:w1.cell? ⟨w.heap.size,2,none⟩=some x2:=by rw[cell_of_row _ _ 2 _ _ _ g0];rfl
 clear h g2 g0
 go_enter func70,ntmps70
 go_upto_region 1 with fail;rw[HW1.out];go_wp2_with fail;refine(HC.out _ g6.out _ rfl).mono ?_;rintro y w2 ⟨err,rfl,g5,g1⟩;have HB2:=Hd (g6.out.trans (g1.mono g6.out.size));have gd:=Hd g5;have e0:=(g1.cell (p:=⟨w.heap.size,0,none⟩) (Zaa d0)).trans d0;have e1:=(g1.cell (p:=⟨w.heap.size,1,none⟩) (Zaa d1)).trans d1;have e2:=(g1.cell (p:=⟨w.heap.size,2,none⟩) (Zaa d2)).trans d2;clear g1 g5 d0 d1 d2
 by_cases he:err=0
 . subst he;go_wp2_with fail;refine(HV.out _ HB2.out _ rfl).mono ?_;rintro y w3 ⟨u,rfl,hu,g9⟩;obtain⟨au,cu,rfl,g7,gf⟩:=hu.sliceIs (by omega);have HO:=Hd (Zr8 au cu (Zc4 e) w3 (by omega) g7);have ga:=Hd (HB2.out.trans (g9.mono HB2.out.size));clear hu g7 g9 e0 e1 e2;go_wp2_with fail;refine HO.out.mono ?_;rintro y w4 ⟨u4,os,rfl,g3,g4,gc,g8⟩;have HF:Hid (∃ u os,Ending.returned u4=.returned u/\SliceIs w4 u os/\os.length<=4096/\(okT e 1->(∀ v,v∈os↔v∈Zc4 e)/\os.Pairwise (· < ·))/\Below w.heap.size w w4):=Hd ⟨u4,os,rfl,g3.sliceIs (by omega),by omega,fun _=>g4,ga.out.trans (g8.mono ga.out.size)⟩;clear g3 g4 gc g8;go_wp2_with fail;go_ret;exact HF.out
 .
  have gg:(err != 0)=true:=by simpa using he
  have HF:Hid (∃ u os,Ending.returned (.slice none 0 0)=.returned u/\SliceIs w2 u os/\os.length<=4096/\(okT e 1->(∀ v,v∈os↔v∈Zc4 e)/\os.Pairwise (· < ·))/\Below w.heap.size w w2):=Hd ⟨_,[],rfl,Zge w2,by simp,fun h=>(he (gd.out.2 h)).elim,HB2.out⟩;clear he e0 e1 e2;go_wp2_with fail;go_ret;exact HF.out
theorem Zob (e:ExT)(x:Value)(w:World)(hs:e.size<=4096)(h:Zbe w e x) :
 Calls prog 70 #[x] w fun y w'=>∃ u os,y=.returned u/\SliceIs w' u os/\os.length<=4096/\(okT e 1->∀ v∈Zc4 e,v∈os)/\Below w.heap.size w w' :=
 (Zoc e x w hs h).mono fun _ _ ⟨u,os,h1,h2,h3,h4,h5⟩=>⟨u,os,h1,h2,h3,fun hk v hv=>((h4 hk).1 v).2 hv,h5⟩
open Go.RowKit
structure EvsAt (w:World)(a:Option Addr)(l:List Ev):Prop where
 len:l.length<=9223372036854775807
 cells:∀ k,∀ hk:k<l.length,∃ b off,a=some ⟨b,off,none⟩/\w.cell? ⟨b,off+k*3,none⟩=some (.int .i64 l[k].after)/\w.cell? ⟨b,off+k*3+1,none⟩=some (.int .i64 l[k].kind)/\w.cell? ⟨b,off+k*3+2,none⟩=some (.int .i64 l[k].level)
theorem EvsAt.below {w w':World}{a:Option Addr}{l:List Ev}(h:EvsAt w a l)(hb:Below w.heap.size w w'):EvsAt w' a l :=
 ⟨h.len,fun k hk=>by
  obtain⟨b,off,e,c0,c1,c2⟩:=h.cells k hk;exact⟨b,off,e,(hb.cell (p:=⟨b,off+k*3,none⟩) (Zaa c0)).trans c0,(hb.cell (p:=⟨b,off+k*3+1,none⟩) (Zaa c1)).trans c1,(hb.cell (p:=⟨b,off+k*3+2,none⟩) (Zaa c2)).trans c2⟩⟩
def Zhw (vars:Int)(e:Ev):Int:=if e.kind<1\/e.kind>3 then 11 else if e.after<1\/(e.kind=2/\(e.level<0\/e.level>vars-2)) then 2 else 0
def Zlw (vars:Int):List Ev->Int
 | []=>0
 | e::r=>if Zhw vars e=0 then Zlw vars r else Zhw vars e
def Ze9 (vars waits:Int)(l:List Ev):Int:=if (l.length:Int)>256-waits then 18 else Zlw vars l
theorem Zhl {vars:Int}{l:List Ev}{i:Nat}(hi:i<l.length):Zlw vars (l.drop i)=if Zhw vars l[i]=0 then Zlw vars (l.drop (i+1)) else Zhw vars l[i]:=by
 rw[List.drop_eq_getElem_cons hi];rfl
theorem Zt5 (vars waits:Int)(hv:0<=vars/\vars<=1000)(hw:0<=waits/\waits<=1000)(a:Option Addr)(c:Nat)(l:List Ev)(w:World)(h:EvsAt w a l) :
 Calls prog 67 #[.int .i64 vars,.int .i64 waits,.slice a l.length c] w fun y w'=>y=.returned (.int .i64 (Ze9 vars waits l))/\w=w':=by
 have HI:=Hd h;have hl:=h.len;clear h
 by_cases g1:(l.length:Int)>256-waits
 .
  have HR:Hid (Ze9 vars waits l=18):=Hd (by unfold Ze9;rw[if_pos g1])
  go_enter func67,ntmps67
  go_wp2_with fail;go_ret;exact⟨by rw[HR.out];rfl,rfl⟩
 have HR:Hid (Ze9 vars waits l=Zlw vars (l.drop 0)):=Hd (by unfold Ze9;rw[if_neg g1];rfl);obtain⟨P,hP⟩:∃ P,P=Ze9 vars waits l:=⟨_,rfl⟩;rw[<- hP] at HR ⊢;clear hP
 go_enter func67,ntmps67
 go_wp2_with fail
 go_loopw [7] (fun s7 wr=>∃ i:Nat,i<=l.length/\s7=.int .i64 i/\w=wr/\Hid (P=Zlw vars (l.drop i))) (fun s7 _=>l.length-(intOf s7).toNat)
 case atStart=>exact⟨0,Nat.zero_le _,rfl,rfl,HR⟩
 case round =>
  clear HR;obtain⟨i,hi,rfl,rfl,HP⟩:=hrel
  by_cases g2:i<l.length
  .
   obtain⟨b,off,rfl,c0,c1,c2⟩:=HI.out.cells i g2;have g8:(i:Int)<l.length:=by omega
   have HC:Hid (∀ z:Int,Zhw vars l[i]=z->z≠0->P=z):=Hd fun z hz h0=>by rw[HP.out,Zhl g2,hz,if_neg h0]
   have HN:Hid (Zhw vars l[i]=0->P=Zlw vars (l.drop (i+1))):=Hd fun hz=>by rw[HP.out,Zhl g2,hz,if_pos rfl]
   have HE:Hid (Zhw vars l[i]=if l[i].kind<1\/l[i].kind>3 then 11 else if l[i].after<1\/(l[i].kind=2/\(l[i].level<0\/l[i].level>vars-2)) then 2 else 0):=Hd rfl;obtain⟨ev,g3⟩:∃ ev,ev=l[i]:=⟨_,rfl⟩;rw[<- g3] at c0 c1 c2 HC HN HE;obtain⟨af,ki,le⟩:=ev;dsimp only at c0 c1 c2 HE;clear g3 HP;have g6:ki<1\/ki>3\/(ki=2)\/(ki=1\/ki=3):=by omega
   rcases g6 with hk|hk|hk|hk
   . have g0:=Hd (HC.out 11 (by rw[HE.out,if_pos (.inl hk)]) (by decide));go_wp2_with fail;go_ret;exact⟨by rw[g0.out];rfl,rfl⟩
   .
    have g0:=Hd (HC.out 11 (by rw[HE.out,if_pos (.inr hk)]) (by decide));have g7:¬ ki<1:=by omega
    go_wp2_with fail;go_ret;exact⟨by rw[g0.out];rfl,rfl⟩
   .
    by_cases ha:af<1
    . have g0:=Hd (HC.out 2 (by rw[HE.out,if_neg (by omega),if_pos (.inl ha)]) (by decide));subst hk;go_wp2_with fail;go_ret;exact⟨by rw[g0.out];rfl,rfl⟩
    .
     by_cases g5:le<0
     . have g0:=Hd (HC.out 2 (by rw[HE.out,if_neg (by omega),if_pos (.inr ⟨hk,.inl g5⟩)]) (by decide));subst hk;go_wp2_with fail;go_ret;exact⟨by rw[g0.out];rfl,rfl⟩
     .
      by_cases g4:le>vars-2
      . have g0:=Hd (HC.out 2 (by rw[HE.out,if_neg (by omega),if_pos (.inr ⟨hk,.inr g4⟩)]) (by decide));subst hk;go_wp2_with fail;go_ret;exact⟨by rw[g0.out];rfl,rfl⟩
      .
       have g0:=Hd (HN.out (by rw[HE.out,if_neg (by omega),if_neg (by omega)]));subst hk;go_wp2_with fail;go_roundw
       case rel=>exact⟨i+1,by omega,by go_num,by simp,g0⟩
       case measure=>simp[intOf];omega
   .
    have g7:¬ ki<1:=by omega
    have ga:¬ ki>3:=by omega
    have g9:(ki == 2)=false:=by simp;omega
    by_cases ha:af<1
    . have g0:=Hd (HC.out 2 (by rw[HE.out,if_neg (by omega),if_pos (.inl ha)]) (by decide));clear hk;go_wp2_with fail;go_ret;exact⟨by rw[g0.out];rfl,rfl⟩
    .
     have g0:=Hd (HN.out (by rw[HE.out,if_neg (by omega),if_neg (by omega)]));clear hk;go_wp2_with fail;go_roundw
     case rel=>exact⟨i+1,by omega,by go_num,by simp,g0⟩
     case measure=>simp[intOf];omega
  .
   have he:i=l.length:=by omega
   have g8:¬ (i:Int)<l.length:=by omega
   have g0:Hid (P=0):=Hd (by rw[HP.out,he,List.drop_length];rfl);clear he;go_wp2_with fail;go_ret;exact⟨by rw[g0.out];rfl,rfl⟩
open Go.RowKit
def cntP (zs:List Int)(v:Int)(i:Nat):Nat:=((zs.take i).filter (fun z=>decide (z=v))).length
theorem Zf3 {zs:List Int}{v:Int}{i:Nat}(hi:i<zs.length)(h:at0 zs i=v):cntP zs v (i+1)=cntP zs v i+1:=by
 rw[Za8 hi] at h;unfold cntP;rw[List.take_succ_eq_append_getElem hi,List.filter_append];simp[h]
theorem Zqx {zs:List Int}{v:Int}{i:Nat}(hi:i<zs.length)(h:at0 zs i≠v):cntP zs v (i+1)=cntP zs v i:=by
 rw[Za8 hi] at h;unfold cntP;rw[List.take_succ_eq_append_getElem hi,List.filter_append];simp[h]
theorem Zz6 (zs:List Int)(v:Int)(i:Nat):cntP zs v i<=i:=by
 unfold cntP;refine Nat.le_trans (List.length_filter_le _ _) ?_;rw[List.length_take];omega
def Zfm (zs:List Int)(n:Int):Bool:=decide ((zs.length:Int)=n/\∀ v,v<zs.length->cntP zs (v:Nat) zs.length=1)
theorem Zqa (a:Option Addr)(c:Nat)(zs:List Int)(n:Int)(w:World)(hz:Za4 w a zs)(hl:zs.length<=1000000) :
 Calls prog 66 #[.slice a zs.length c,.int .i64 n] w fun x w'=>x=.returned (.bool (Zfm zs n))/\w=w':=by
 have HZ:=Hd hz;clear hz
 by_cases hn:(zs.length:Int)=n
 .
  subst hn;have HR:Hid (∀ b:Bool,(b=true↔∀ v,v<zs.length->cntP zs (v:Nat) zs.length=1)->Zfm zs zs.length=b):=by
   refine Hd fun b hb=>?_
   unfold Zfm;rw[Bool.eq_iff_iff,hb];simp
  go_enter func66,ntmps66
  go_wp2_with fail
  go_loopw [5] (fun s5 wr=>∃ k:Nat,k<=zs.length/\s5=.int .i64 k/\w=wr/\∀ v,v<k->cntP zs (v:Nat) zs.length=1) (fun s5 _=>zs.length-(intOf s5).toNat)
  case atStart=>exact⟨0,Nat.zero_le _,rfl,rfl,fun v hv=>by omega⟩
  case round =>
   obtain⟨k,hk,rfl,rfl,g2⟩:=hrel;have HA:=Hd g2;clear g2
   by_cases g3:k<zs.length
   .
    have g4:(k:Int)<zs.length:=by omega
    go_wp2_with fail
    go_loopw [6,7] (fun s6 s7 wx=>∃ i:Nat,i<=zs.length/\s7=.int .i64 i/\s6=.int .i64 (cntP zs (k:Nat) i:Nat)/\w=wx) (fun _ s7 _=>zs.length-(intOf s7).toNat)
    case atStart=>exact⟨0,Nat.zero_le _,rfl,rfl,rfl⟩
    case round =>
     obtain⟨i,hi,rfl,rfl,rfl⟩:=hrel;have g6:=Zz6 zs (k:Nat) i
     by_cases g1:i<zs.length
     .
      obtain⟨b,off,ha,hc⟩:=HZ.out.cells i g1;subst ha;have g5:(i:Int)<zs.length:=by omega
      by_cases he:at0 zs i=(k:Nat)
      .
       rw[he] at hc;have HY:=Hd (Zf3 g1 he);go_wp2_with fail;go_roundw
       case rel=>exact⟨i+1,by omega,by go_num,by rw[HY.out];go_num,trivial⟩
       case measure=>simp[intOf];omega
      .
       have g0:((at0 zs i:Int) == (k:Nat))=false:=by simpa using he
       have HY:=Hd (Zqx g1 he)
       generalize at0 zs i=z at hc g0
       clear he;go_wp2_with fail;go_roundw
       case rel=>exact⟨i+1,by omega,by go_num,by rw[HY.out],trivial⟩
       case measure=>simp[intOf];omega
     .
      obtain rfl:i=zs.length:=by omega
      generalize hq:cntP zs (k:Nat) zs.length=q at *
      by_cases h1:q=1
      .
       subst h1;have HQ:=Hd hq;clear hq;go_wp2_with fail;go_roundw
       case rel =>
        refine⟨k+1,by omega,by go_num,trivial,fun v hv=>?_⟩
        by_cases e:v=k
        . subst e;exact HQ.out
        . exact HA.out v (by omega)
       case measure=>simp[intOf];omega
      .
       have g0:((q:Int) == 1)=false:=by simp;omega
       have HQ:=Hd hq;clear hq;go_wp2_with fail;go_ret;refine⟨?_,rfl⟩
       rw[HR.out false (by
        simp only[Bool.false_eq_true,false_iff];intro hh;exact h1 ((HQ.out).symm.trans (hh k g3)))]
       rfl
   .
    obtain rfl:k=zs.length:=by omega
    go_wp2_with fail;go_ret;refine⟨?_,rfl⟩;rw[HR.out true (by simp only[true_iff];exact HA.out)];rfl
 .
  have g0:(((zs.length:Nat):Int) == n)=false:=by simpa using hn
  have HR:Hid (Zfm zs n=false):=by
   refine Hd ?_
   show Zfm zs n=false
   unfold Zfm;simp[hn]
  go_enter func66,ntmps66
  go_wp2_with fail;go_ret;exact⟨by rw[HR.out];rfl,rfl⟩
open Go.RowKit
theorem Zyn (a:Option Addr)(c:Nat)(zs:List Int)(n:Int)(w:World)(hz:Za4 w a zs)(hn:(zs.length:Int)≠n) :
 Calls prog 66 #[.slice a zs.length c,.int .i64 n] w fun x w'=>x=.returned (.bool false)/\w=w':=by
 have hl:=hz.len;have g0:(((zs.length:Nat):Int) == n)=false:=by simpa using hn
 clear hz
 go_enter func66,ntmps66
 go_wp2_with fail;go_ret;exact⟨rfl,rfl⟩
theorem Zwv (a:Option Addr)(c:Nat)(zs:List Int)(n:Int)(w:World)(hz:Za4 w a zs)(hn:n<=1000) :
 Calls prog 66 #[.slice a zs.length c,.int .i64 n] w fun x w'=>x=.returned (.bool (Zfm zs n))/\w=w':=by
 by_cases h:(zs.length:Int)=n
 . exact Zqa a c zs n w hz (by omega)
 .
  have:Zfm zs n=false:=by unfold Zfm;simp[h]
  rw[this];exact Zyn a c zs n w hz h
theorem Zbe.parts {w:World}{e:ExT}{x0 x1 x2:Value}(h:Zbe w e (.agg #[x0,x1,x2])):∃ op v a n c,x0=.int .i64 op/\x1=.int .i64 v/\x2=.slice a n c:=by
 cases e with
 | nil=>unfold Zbe at h;exact h.elim
 | mk op v n kid =>
   unfold Zbe at h;obtain⟨a,c,hx,_⟩:=h;cases hx;exact⟨_,_,_,_,_,rfl,rfl,rfl⟩
structure Zki (w:World)(a:Option Addr)(l:List ExT):Prop where
 len:l.length<=9223372036854775807
 cells:∀ k,∀ hk:k<l.length,∃ b off x0 x1 x2,a=some ⟨b,off,none⟩/\w.cell? ⟨b,off+k*3,none⟩=some x0/\w.cell? ⟨b,off+k*3+1,none⟩=some x1/\w.cell? ⟨b,off+k*3+2,none⟩=some x2/\Zbe w l[k] (.agg #[x0,x1,x2])
theorem Zki.below {w w':World}{a:Option Addr}{l:List ExT}(h:Zki w a l)(hb:Below w.heap.size w w'):Zki w' a l :=
 ⟨h.len,fun k hk=>by
  obtain⟨b,off,x0,x1,x2,e,c0,c1,c2,hx⟩:=h.cells k hk;exact⟨b,off,x0,x1,x2,e,(hb.cell (p:=⟨b,off+k*3,none⟩) (Zaa c0)).trans c0,(hb.cell (p:=⟨b,off+k*3+1,none⟩) (Zaa c1)).trans c1,(hb.cell (p:=⟨b,off+k*3+2,none⟩) (Zaa c2)).trans c2,hx.below hb⟩⟩
structure AskD where
 vars:Int
 order:List Int
 es:List ExT
 plan:List Ev
structure AskAt (w:World)(q:AskD)(ao ae ap:Option Addr):Prop where
 vars:okI q.vars
 order:Za4 w ao q.order
 es:Zki w ae q.es
 plan:EvsAt w ap q.plan
theorem AskAt.below {w w':World}{q:AskD}{ao ae ap:Option Addr}(h:AskAt w q ao ae ap)(hb:Below w.heap.size w w'):AskAt w' q ao ae ap:=⟨h.vars,h.order.below hb,h.es.below hb,h.plan.below hb⟩
structure Zhu (q:AskD):Prop where
 lo:1<=q.vars
 hi:q.vars<=6
 es:q.es.length<=5
 plan:q.plan.length<=6
 order:q.order.length>0->Zfm q.order q.vars=true
 planOk:Ze9 q.vars 0 q.plan=0
 after:∀ ev∈q.plan,ev.after<=300
 expr:∀ e∈q.es,e.size<=40/\okT e 1/\∀ v∈Zc4 e,v<q.vars
def askV (q:AskD)(ao ae ap:Option Addr)(co ce cp:Nat):Value:=.agg #[.int .i64 q.vars,.slice ao q.order.length co,.slice ae q.es.length ce,.slice ap q.plan.length cp]
theorem Zqf (q:AskD)(ao ae ap:Option Addr)(co ce cp:Nat)(w:World)(h:AskAt w q ao ae ap) :
 Calls prog 19 #[askV q ao ae ap co ce cp] w fun y w'=>∃ b,y=.returned (.bool b)/\(b=true->Zhu q)/\Below w.heap.size w w':=by
 obtain⟨vars,order,es,plan⟩:=q;obtain⟨hv,ho,he,hp⟩:=h;dsimp only [askV] at hv ho he hp ⊢;unfold okI at hv;have hd:=ho.len;have hm:=he.len;have hc:=hp.len;have HO:=Hd ho;have HE:=Hd he;have HP:=Hd hp;obtain⟨w1,gh⟩:∃ w1,w1=w.alloc (.cells #[.int .i64 vars,.slice ao order.length co,.slice ae es.length ce,.slice ap plan.length cp] 39):=⟨_,rfl⟩;have HW1:Hid (_=w1):=Hd gh.symm;have g9:Hid (Below w.heap.size w w1):=by rw[gh];exact Hd (Zad _ _)
 have g0:w1.heap[w.heap.size]?=some (.cells #[.int .i64 vars,.slice ao order.length co,.slice ae es.length ce,.slice ap plan.length cp] 39 (0,0)):=by rw[gh];exact heap_alloc_new _ _
 have d0:w1.cell? ⟨w.heap.size,0,none⟩=some (.int .i64 vars):=by rw[cell_of_row _ _ 0 _ _ _ g0];rfl
 have d1:w1.cell? ⟨w.heap.size,1,none⟩=some (.slice ao order.length co):=by rw[cell_of_row _ _ 1 _ _ _ g0];rfl
 have d2:w1.cell? ⟨w.heap.size,2,none⟩=some (.slice ae es.length ce):=by rw[cell_of_row _ _ 2 _ _ _ g0];rfl
 have d3:w1.cell? ⟨w.heap.size,3,none⟩=some (.slice ap plan.length cp):=by rw[cell_of_row _ _ 3 _ _ _ g0];rfl
 have hs1:w1.heap.size=w.heap.size+1:=by rw[gh];simp
 have ge:Hid (vars<=6->Calls prog 66 #[.slice ao order.length co,.int .i64 vars] w1 fun x w'=>x=.returned (.bool (Zfm order vars))/\w1=w'):=Hd fun hh=>Zwv ao co order vars w1 (HO.out.below g9.out) (by omega)
 have gf:Hid (0<=vars->vars<=6->Calls prog 67 #[.int .i64 vars,.int .i64 0,.slice ap plan.length cp] w1 fun x w'=>x=.returned (.int .i64 (Ze9 vars 0 plan))/\w1=w'):=Hd fun h1 h2=>Zt5 vars 0 ⟨h1,by omega⟩ ⟨by omega,by omega⟩ ap cp plan w1 (HP.out.below g9.out)
 obtain⟨P,hP⟩:∃ P:Ending->World->Prop,P=fun y w'=>∃ b,y=.returned (.bool b)/\(b=true->Zhu ⟨vars,order,es,plan⟩)/\Below w.heap.size w w':=⟨_,rfl⟩
 have gl:Hid (∀ W,Below w1.heap.size w1 W->P (.returned (.bool false)) W):=by rw[hP];exact Hd fun W hb=>⟨false,rfl,by simp,g9.out.trans (hb.mono g9.out.size)⟩
 have gM:Hid (Zhu ⟨vars,order,es,plan⟩->∀ W,Below w1.heap.size w1 W->P (.returned (.bool true)) W):=by rw[hP];exact Hd fun hq W hb=>⟨true,rfl,fun _=>hq,g9.out.trans (hb.mono g9.out.size)⟩
 rw[<- hP];clear ho he hp gh g0 hP
 go_enter func19,ntmps19
 go_upto_region 1 with fail;rw[HW1.out]
 go_cut [50] (fun s50 wx=>∃ bad:Bool,s50=.bool bad/\wx=w1/\Hid (bad=false->1<=vars/\vars<=6/\es.length<=5/\plan.length<=6/\(order.length>0->Zfm order vars=true)/\Ze9 vars 0 plan=0))
 case first =>
  by_cases h1:vars<1
  .
   go_wp2_with fail;go_meet
   case rel=>exact⟨true,rfl,rfl,Hd (by simp)⟩
  by_cases h2:vars>6
  .
   go_wp2_with fail;go_meet
   case rel=>exact⟨true,rfl,rfl,Hd (by simp)⟩
  by_cases h3:(es.length:Int)>5
  .
   go_wp2_with fail;go_meet
   case rel=>exact⟨true,rfl,rfl,Hd (by simp)⟩
  by_cases h4:(plan.length:Int)>6
  .
   go_wp2_with fail;go_meet
   case rel=>exact⟨true,rfl,rfl,Hd (by simp)⟩
  have gf:=Hd (gf.out (by omega) (by omega));have ge:=Hd (ge.out (by omega));obtain⟨pr,gq⟩:∃ pr,pr=Ze9 vars 0 plan:=⟨_,rfl⟩;rw[<- gq] at gf;have gI:=Hd gq;clear gq
  by_cases h5:(order.length:Int)>0
  .
   obtain⟨rb,gp⟩:∃ rb,rb=Zfm order vars:=⟨_,rfl⟩;rw[<- gp] at ge;have gU:=Hd gp;clear gp;cases rb with
   | false =>
     go_wp2_with fail;refine ge.out.mono ?_;rintro y w' ⟨rfl,rfl⟩;go_wp2_with fail;go_meet
     case rel=>exact⟨true,rfl,rfl,Hd (by simp)⟩
   | true =>
     go_wp2_with fail;refine ge.out.mono ?_;rintro y w' ⟨rfl,rfl⟩;go_wp2_with fail;refine gf.out.mono ?_;rintro y w' ⟨rfl,rfl⟩
     by_cases h6:pr=0
     .
      have gg:Hid (1<=vars/\vars<=6/\es.length<=5/\plan.length<=6/\(order.length>0->Zfm order vars=true)/\Ze9 vars 0 plan=0):=Hd ⟨by omega,by omega,by omega,by omega,fun _=>gU.out.symm,by rw[<- gI.out,h6]⟩;subst h6;go_wp2_with fail;go_meet
      case rel=>exact⟨false,rfl,rfl,Hd fun _=>gg.out⟩
     .
      have gS:(pr != 0)=true:=by simpa using h6
      clear h6;go_wp2_with fail;go_meet
      case rel=>exact⟨true,rfl,rfl,Hd (by simp)⟩
  .
   go_wp2_with fail;refine gf.out.mono ?_;rintro y w' ⟨rfl,rfl⟩
   by_cases h6:pr=0
   .
    have gg:Hid (1<=vars/\vars<=6/\es.length<=5/\plan.length<=6/\(order.length>0->Zfm order vars=true)/\Ze9 vars 0 plan=0):=Hd ⟨by omega,by omega,by omega,by omega,fun _=>by omega,by rw[<- gI.out,h6]⟩;subst h6;go_wp2_with fail;go_meet
    case rel=>exact⟨false,rfl,rfl,Hd fun _=>gg.out⟩
   .
    have gS:(pr != 0)=true:=by simpa using h6
    clear h6;go_wp2_with fail;go_meet
    case rel=>exact⟨true,rfl,rfl,Hd (by simp)⟩
 case rest =>
  obtain⟨bad,rfl,rfl,gB⟩:=hcut;clear ge gf;cases bad with
  | true =>
    go_wp2_with fail;exact gl.out _ (Below.refl _ _)
  | false =>
    obtain⟨g1,g2,g3,g4,g5,g6⟩:=gB.out rfl;have gZ:=Hd g5;have gY:=Hd g6;clear g5 g6 gB;go_upto_region 3 with fail;go_wp2_with fail
    go_loopw [4,54] (fun s4 s54 wr=>∃ k:Nat,k<=plan.length/\s54=.int .i64 k/\Below wc.heap.size wc wr/\Hid (∀ ev∈plan.take k,ev.after<=300)) (fun _ s54 _=>plan.length-(intOf s54).toNat)
    case atStart=>exact⟨0,Nat.zero_le _,rfl,Below.refl _ _,Hd fun ev he=>by simp at he⟩
    case round =>
     obtain⟨k,hk,rfl,g7,HA⟩:=hrel
     by_cases gi:k<plan.length
     .
      obtain⟨b,off,rfl,c0,c1,c2⟩:=((HP.out.below g9.out).below g7).cells k gi;have gP:(k:Int)<plan.length:=by omega
      have g8:=Hd g7;have gk:Hid (∀ ev∈plan.take (k+1),ev∈plan.take k\/ev=plan[k]):=Hd fun ev he=>by
       rw[List.take_succ_eq_append_getElem gi,List.mem_append,List.mem_singleton] at he;exact he
      obtain⟨ev,ga⟩:∃ ev,ev=plan[k]:=⟨_,rfl⟩;rw[<- ga] at c0 c1 c2 gk;obtain⟨af,ki,le⟩:=ev;dsimp only at c0 c1 c2;clear ga g7
      by_cases hn:af>300
      . have HF:=Hd (gl.out _ (g8.out.trans ((Zad wr (.cells #[.int .i64 af,.int .i64 ki,.int .i64 le] 120)).mono g8.out.size)));go_wp2_with fail;exact HF.out
      .
       have HF:=Hd (g8.out.trans ((Zad wr (.cells #[.int .i64 af,.int .i64 ki,.int .i64 le] 120)).mono g8.out.size));have h7:Hid (∀ ev∈plan.take (k+1),ev.after<=300):=Hd fun ev he=>by
        rcases gk.out ev he with h|rfl
        . exact HA.out ev h
        . dsimp only;omega
       go_wp2_with fail;go_roundw
       case rel=>exact⟨k+1,by omega,by go_num,HF.out,h7⟩
       case measure=>simp[intOf];omega
     .
      have h0:Hid (∀ ev∈plan,ev.after<=300):=Hd fun ev ga=>HA.out ev (by rw[List.take_of_length_le (by omega)];exact ga)
      have gP:¬ (k:Int)<plan.length:=by omega
      have d0':=(g7.cell (p:=⟨w.heap.size,0,none⟩) (Zaa d0)).trans d0;have d2':=(g7.cell (p:=⟨w.heap.size,2,none⟩) (Zaa d2)).trans d2;have g8:=Hd g7;obtain⟨wA,ha⟩:∃ wA,wA=wr:=⟨_,rfl⟩;clear g7;go_wp2_with fail
      go_loopw [6,8,65] (fun s6 s8 s65 wx=>∃ k:Nat,k<=es.length/\s65=.int .i64 k/\Below wc.heap.size wc wx/\Hid (∀ e∈es.take k,e.size<=40/\okT e 1/\∀ v∈Zc4 e,v<vars)) (fun _ _ s65 _=>es.length-(intOf s65).toNat)
      case atStart=>exact⟨0,Nat.zero_le _,rfl,g8.out,Hd fun ev he=>by simp at he⟩
      case round =>
       rename World=>wy
       obtain⟨j,hj,rfl,gj,HB⟩:=hrel
       by_cases gi:j<es.length
       .
        obtain⟨b,off,x0,x1,x2,rfl,c0,c1,c2,hx⟩:=((HE.out.below g9.out).below gj).cells j gi;have gQ:(j:Int)<es.length:=by omega
        have gK:=Hd gj;have gk:Hid (∀ e∈es.take (j+1),e∈es.take j\/e=es[j]):=Hd fun e he=>by
         rw[List.take_succ_eq_append_getElem gi,List.mem_append,List.mem_singleton] at he;exact he
        have gv:=(gj.cell (p:=⟨w.heap.size,0,none⟩) (Zaa d0)).trans d0;obtain⟨e,ga⟩:∃ e,e=es[j]:=⟨_,rfl⟩;rw[<- ga] at hx gk;have HX:=Hd hx;obtain⟨zo,zv,za,zn,zc,rfl,rfl,rfl⟩:=hx.parts;clear ga gj hx;go_upto_region 12 with fail;obtain⟨wz,gm⟩:∃ wz,wz=wy.alloc (.cells #[.int .i64 zo,.int .i64 zv,.slice za zn zc] 81):=⟨_,rfl⟩;have go:Below wy.heap.size wy wz:=by rw[gm];exact Zad _ _
        have g0:wz.heap[wy.heap.size]?=some (.cells #[.int .i64 zo,.int .i64 zv,.slice za zn zc] 81 (0,0)):=by rw[gm];exact heap_alloc_new _ _
        have k0:wz.cell? ⟨wy.heap.size,0,none⟩=some (.int .i64 zo):=by rw[cell_of_row _ _ 0 _ _ _ g0];rfl
        have k1:wz.cell? ⟨wy.heap.size,1,none⟩=some (.int .i64 zv):=by rw[cell_of_row _ _ 1 _ _ _ g0];rfl
        have k2:wz.cell? ⟨wy.heap.size,2,none⟩=some (.slice za zn zc):=by rw[cell_of_row _ _ 2 _ _ _ g0];rfl
        have kd:=(go.cell (p:=⟨w.heap.size,0,none⟩) (Zaa gv)).trans gv;have gx:=Hd (HX.out.below go);have gJ:=Hd (gK.out.trans (go.mono gK.out.size));rw[<- gm];clear gm go g0 c0 c1 c2 gv;go_wp2_with fail;refine(Zpw e _ 40 _ (by omega) gx.out).mono ?_;rintro y wp ⟨⟨r,rfl,_,_,gD⟩,gd⟩;have gA:=Hd (gJ.out.trans (gd.mono gJ.out.size));have gy:=Hd (gx.out.below gd);have m0:=(gd.cell (p:=⟨wy.heap.size,0,none⟩) (Zaa k0)).trans k0;have m1:=(gd.cell (p:=⟨wy.heap.size,1,none⟩) (Zaa k1)).trans k1;have m2:=(gd.cell (p:=⟨wy.heap.size,2,none⟩) (Zaa k2)).trans k2;have md:=(gd.cell (p:=⟨w.heap.size,0,none⟩) (Zaa kd)).trans kd;clear gd k0 k1 k2 kd
        by_cases hr:(r:Int)>40
        . have HF:=Hd (gl.out _ gA.out);go_wp2_with fail;exact HF.out
        have gC:e.size<=40:=by have:=gD (by omega);omega
        clear gD;go_wp2_with fail;refine(Zh3 e _ _ (by omega) gy.out).mono ?_;rintro y wq ⟨err,rfl,gu,gc⟩;have gz:=Hd (gA.out.trans (gc.mono gA.out.size));have gF:=Hd (gy.out.below gc);have n0:=(gc.cell (p:=⟨wy.heap.size,0,none⟩) (Zaa m0)).trans m0;have n1:=(gc.cell (p:=⟨wy.heap.size,1,none⟩) (Zaa m1)).trans m1;have n2:=(gc.cell (p:=⟨wy.heap.size,2,none⟩) (Zaa m2)).trans m2;have nd:=(gc.cell (p:=⟨w.heap.size,0,none⟩) (Zaa md)).trans md;have gX:=Hd gu;clear gc m0 m1 m2 md gu
        by_cases gn:err=0
        .
         have gg:=Hd (gX.out.1 gn);subst gn;go_wp2_with fail;refine(Zob e _ _ (by omega) gF.out).mono ?_;rintro y ws ⟨u,os,rfl,gO,h8,gr,gw⟩;obtain⟨au,cu,rfl,gE,hf⟩:=gO;have gL:=Hd (gz.out.trans (gw.mono gz.out.size));have pd:=(gw.cell (p:=⟨w.heap.size,0,none⟩) (Zaa nd)).trans nd;have gV:=Hd gE;have gN:=Hd (gr gg.out);clear gw n0 n1 n2 nd gE gr HX gx gy gF;go_wp2_with fail
         go_loopw [8,80] (fun s8 s80 wt=>∃ i:Nat,i<=os.length/\s80=.int .i64 i/\wt=ws/\Hid (∀ v∈os.take i,v<vars)) (fun _ s80 _=>os.length-(intOf s80).toNat)
         case atStart=>exact⟨0,Nat.zero_le _,rfl,rfl,Hd fun v hv=>by simp at hv⟩
         case round =>
          obtain⟨i,hi,rfl,rfl,gG⟩:=hrel
          by_cases gt:i<os.length
          .
           obtain⟨b2,of2,rfl,cc⟩:=gV.out.cells i gt;have gR:(i:Int)<os.length:=by omega
           have gH:=Hd (Ziq gt);obtain⟨z,hz⟩:∃ z,z=at0 os i:=⟨_,rfl⟩;rw[<- hz] at cc gH;clear hz
           by_cases h9:z>=vars
           . have HF:=Hd (gl.out _ gL.out);go_wp2_with fail;exact HF.out
           .
            have gT:Hid (∀ v∈os.take (i+1),v<vars):=Hd fun v hv=>by
             rcases(gH.out v).1 hv with h|rfl
             . exact gG.out v h
             . omega
            go_wp2_with fail;go_roundw
            case rel=>exact⟨i+1,by omega,by go_num,by simp,gT⟩
            case measure=>simp[intOf];omega
          .
           have gR:¬ (i:Int)<os.length:=by omega
           have HB2:Hid (∀ e∈es.take (j+1),e.size<=40/\okT e 1/\∀ v∈Zc4 e,v<vars):=Hd fun e' he'=>by
            rcases gk.out e' he' with h|rfl
            . exact HB.out e' h
            . exact⟨gC,gg.out,fun v hv=>gG.out v (by rw[List.take_of_length_le (by omega)];exact gN.out v hv)⟩
           go_wp2_with fail;go_roundw
           case rel=>exact⟨j+1,by omega,by go_num,gL.out,HB2⟩
           case measure=>simp[intOf];omega
        .
         have hg:(err != 0)=true:=by simpa using gn
         have HF:=Hd (gl.out _ gz.out);clear gn;go_wp2_with fail;exact HF.out
       .
        have gQ:¬ (j:Int)<es.length:=by omega
        have HF:=Hd (gM.out ⟨g1,g2,g3,g4,gZ.out,gY.out,h0.out,fun e he=>HB.out e (by rw[List.take_of_length_le (by omega)];exact he)⟩ _ gj);go_wp2_with fail;exact HF.out
end Go.Proofs.YtkbegdkpboklpaaGreat

namespace Go.Proofs.YtkbegdkpboklpaaGreat
open Go.Proofs.Tryz
open Go.RowKit Go.Shelf
section
variable {F:Fence}{n:Nat}{P:Program}{α:Type}
def Zy8 (F:Fence)(n d:Nat)(P:Program)(g:Nat)(lb:Array Value)(encs:α->Array Value)(n₀:Nat)(Bx:Nat->Prop)(Good:List α->Prop)(w:World):Prop :=
 ∀ (l:Nat) (J:List α->(Nat->Prop)->World->Prop) (M:Nat->Prop) (W:World),Zrp n₀ J->Minds n₀ J->Wr (fun k=>n₀<=k/\¬ Bx k) w W->(∀ k,Bx k->¬ M k) ->
  (∀ pre x M W1,J pre M W1->(∃ suf,Good (pre++x::suf))->YieldAt F (n-1-d) P l (encs x) W1 fun e W' =>
   e=.returned (.bool true)/\∃ M',J (pre++[x]) M' W'/\Wr M W1 W'/\∀ k,M' k->M k\/W1.heap.size<=k) ->
  J [] M W ->
  CallsIn F n P g (#[.func (.yield l) #[] #[]]++lb) W fun e W'=>(∃ v,e=.returned v)/\∃ xs M',Good xs/\J xs M' W'/\Wr (fun k=>n₀<=k) W W'/\∀ k,M' k->M k\/W.heap.size<=k
theorem Zxk {g:Operand}{ps:Array Tmp}{assign body:Code}{Q:Exit->Act->World->Prop}{a:Act}{w:World}(hro:F.round=none)(h1:1<=n){gf:Nat}{lb:Array Value}(hg:a.eval g=.func (.func gf) #[] lb)
 (hFg:F.fn gf) (eg:∀ args w,(callFunc gf args).run P w=.ok (.enter gf args) w) {encs:α->Array Value} {n₀:Nat} {Bx:Nat->Prop} {Good:List α->Prop} {d:Nat} (hseq:Zy8 F (n-1) d P gf lb encs n₀ Bx Good w) (hn0:n₀<=w.heap.size)
 (hBx:∀ k,Bx k->k<w.heap.size) (hps:∀ x,(encs x).size=ps.size) (I:List α->(Nat->Prop)->World->Prop) (hOw:Zrp n₀ I) (hMi:Minds n₀ I) (M0:Nat->Prop) (hM0:∀ k,Bx k->¬ M0 k) (h0:I [] M0 w)
 (Ax:α->Act->World->World->Prop) (hAx:∀ x a' W W1 W2 l,l<W.heap.size->Ax x a' W W1->Wr (· = l) W1 W2->Ax x a' W W2)
 (hassign:∀ (l:Nat) (pre:List α) (x:α) (M:Nat->Prop) (W:World) (K:Act->World->Prop),I pre M W->(∀ a' W',Wr (fun _=>False) W W'->Ax x a' W W'->K a' W') ->
  assign.wpIn (F.inRound l) (n-1-1-d) P (Exit.then K (fun _ _ _=>False)) { tmps:=(ps.zip (encs x)).foldl (fun t (p,v)=>t.setIfInBounds p v) a.tmps,defers:=[] } W)
 (hbody:∀ (l:Nat) (pre:List α) (x:α) (a':Act) (M:Nat->Prop) (W0 W:World),I pre M W->Ax x a' W0 W->W0.heap.size<=W.heap.size->w.heap.size<=W0.heap.size->(∃ suf,Good (pre++x::suf))->body.wpIn (F.inRound l) (n-1-1-d) P
  (fun e _ W'=>match e with|.normal=>∃ M',I (pre++[x]) M' W'/\Wr (fun k=>M k\/W0.heap.size<=k) W W'/\(∀ k,M' k->M k\/W0.heap.size<=k)|_=>False) a' W)
 (hdone:∀ (xs:List α) (D:Nat) (M:Nat->Prop) (W:World),Good xs->w.heap.size<=D->¬ M D->I xs M W->(∀ k,M k->M0 k\/w.heap.size<=k)->Wr (fun k=>n₀<=k) w W->W.heap[D]?=some (.deferred (some []))->Q .normal { a with defers:={ target:=.collected D,args:=#[] }::a.defers } W) :
 (Code.rangeFunc g ps assign body).wpIn F n P Q a w:=by
 refine wpIn_rangeFunc ?_;intro fn go;rw[hro]
 let rec0:LoopState->Loop:=fun st=>{ state:=st,pending:=none,fn,tmps:=a.tmps,params:=ps,assign,body,defers:=w.heap.size }
 obtain⟨W1,g1⟩:∃ W1,W1=(w.alloc (.deferred (some []))).alloc (.loop (rec0 .ready)):=⟨_,rfl⟩;have gu:W1.heap[w.heap.size+1]?=some (.loop (rec0 .ready)):=by
  rw[g1];have:=World.alloc_heap_new (w.alloc (.deferred (some []))) (.loop (rec0 .ready))
  rwa [World.size_alloc] at this
 have gw:W1.heap[w.heap.size]?=some (.deferred (some [])):=by
  rw[g1];exact(Below.heap_alloc _ _ _ (by simp)).trans (World.alloc_heap_new w _)
 have g5:∀ N:Nat->Prop,Wr N w W1:=fun N=>by rw[g1];exact((Wr.refl N w).alloc _).alloc _
 have g2:=hOw [] M0 w h0;have gv:I [] M0 W1:=hMi _ _ _ _ h0 (g5 _)
 refine⟨w.heap.size+1,[{ target:=.collected w.heap.size,args:=#[] }],W1,{ target:=.fn (.func gf) lb,args:=#[.func (.yield (w.heap.size+1)) #[] #[]] },W1,gf,
  #[.func (.yield (w.heap.size+1)) #[] #[]]++lb,W1,?_,?_,?_,?_,fun _=>h1,?_⟩
 . rw[g1];exact run_enterLoop_outer _ _ _ _ _
 . simp only[resolve,hg];simp[go_sem]
 . intro f' gd;simp[Target.leads] at gd;subst gd;exact hFg
 . simp[invoke,go_sem,eg]
 refine(hseq (w.heap.size+1)
  (fun pre N W=>∃ M,I pre M W/\(∀ k,N k↔(M k\/k=w.heap.size+1\/k=w.heap.size))/\¬ M (w.heap.size+1)/\¬ M w.heap.size/\(∀ k,M k->M0 k\/w.heap.size<=k) /\
   W.heap[w.heap.size+1]?=some (.loop (rec0 .ready))/\W.heap[w.heap.size]?=some (.deferred (some [])))
  (fun k=>M0 k\/k=w.heap.size+1\/k=w.heap.size) W1 ?_ ?_ (g5 _) ?_ ?_ ?_).mono ?_
 .
  rintro pre N W ⟨M,hi,hN,_,_,_,hl,hd⟩ k hk;rcases(hN k).1 hk with hk|hk|hk
  . exact hOw _ _ _ hi k hk
  . subst hk;exact⟨by omega,(Array.getElem?_eq_some_iff.1 hl).1⟩
  . subst hk;exact⟨hn0,(Array.getElem?_eq_some_iff.1 hd).1⟩
 .
  rintro pre N W W' ⟨M,hi,hN,h2,h3,h4,hl,hd⟩ hw;refine⟨M,hMi _ _ _ _ hi ?_,hN,h2,h3,h4,?_,?_⟩
  . exact⟨hw.os,hw.tape,hw.output,hw.size,fun k hk hn=>hw.keep k hk (fun⟨a,b⟩=>hn ⟨a,fun e=>b ((hN k).2 (.inl e))⟩)⟩
  . exact(hw.keep _ (Array.getElem?_eq_some_iff.1 hl).1 (fun⟨_,b⟩=>b ((hN _).2 (.inr (.inl rfl))))).trans hl
  . exact(hw.keep _ (Array.getElem?_eq_some_iff.1 hd).1 (fun⟨_,b⟩=>b ((hN _).2 (.inr (.inr rfl))))).trans hd
 .
  intro k hk hm;have:=hBx k hk;rcases hm with hm|hm|hm
  . exact hM0 k hk hm
  . omega
  . omega
 .
  rintro pre x N W ⟨M,hi,hN,h2,h3,h4,hl,hd⟩ ge;have ga:w.heap.size+1<W.heap.size:=(Array.getElem?_eq_some_iff.1 hl).1;have hy:=run_yield (P:=P) (args:=encs x) hl (hps x);refine⟨fn,_,assign,body,hy,roundIn_of_wpIn go (hassign _ pre x M W _ hi ?_)⟩;intro a' Wa g0 gt;have gk:=(g0.keep _ ga (fun h=>h)).trans hl;have gq:=(g0.keep _ (by omega) (fun h=>h)).trans hd;have g6:w.heap.size+1<Wa.heap.size:=by have:=g0.size;omega
  refine⟨_,run_beginRound gk rfl,?_⟩;have gm:I pre M Wa:=hMi _ _ _ _ hi (g0.mono (fun _ h=>h.elim));have g8:Wr (· = w.heap.size+1) Wa (Wa.putObj (w.heap.size+1) (.loop { rec0 .ready with state:=.busy })):=(Wr.refl (· = w.heap.size+1) Wa).putObj (l:=w.heap.size+1) (.inl rfl) _;have gl:I pre M (Wa.putObj (w.heap.size+1) (.loop { rec0 .ready with state:=.busy })):=hMi _ _ _ _ gm (g8.mono (fun k e=>by have e':k=w.heap.size+1:=e;subst e';exact⟨by omega,h2⟩));have gj:(Wa.putObj (w.heap.size+1) (.loop { rec0 .ready with state:=.busy })).heap[w.heap.size+1]?=some (.loop { rec0 .ready with state:=.busy }):=World.putObj_heap_same g6;have gp:(Wa.putObj (w.heap.size+1) (.loop { rec0 .ready with state:=.busy })).heap[w.heap.size]?=some (.deferred (some [])):=(World.putObj_heap_other (by omega)).trans gq;refine wpIn_mono (hbody _ pre x a' M W _ gl (hAx _ _ _ _ _ _ ga gt g8) (by simp;exact g0.size) (by omega) ge) ?_;intro e a3 W3 hp;cases e with
  | normal =>
    obtain⟨M',gn,g4,g3⟩:=hp;have gc:=(g4.keep _ (by simp;exact g6) (fun e=>by rcases e with e|e;exact h2 e;omega)).trans gj;have gr:=(g4.keep _ (by simp;omega) (fun e=>by rcases e with e|e;exact h3 e;omega)).trans gp;have gg:=(Array.getElem?_eq_some_iff.1 gc).1;have g9:¬ M' (w.heap.size+1):=fun e=>by rcases g3 _ e with h|h;exact h2 h;omega
    have gi:¬ M' w.heap.size:=fun e=>by rcases g3 _ e with h|h;exact h3 h;omega
    refine⟨_,_,run_endRound (P:=P) none gc,rfl,fun k=>M' k\/k=w.heap.size+1\/k=w.heap.size,⟨M',?_,fun k=>Iff.rfl,g9,gi,?_,World.putObj_heap_same gg,(World.putObj_heap_other (by omega)).trans gr⟩,?_,?_⟩
    . exact hMi _ _ _ _ gn ((Wr.refl _ _).putObj (.inl ⟨by omega,g9⟩) _)
    .
     intro k hk;rcases g3 k hk with h|h
     . exact h4 k h
     . right;omega
    .
     refine((((g0.mono (N:=N) (fun _ h=>h.elim)).putObj (l:=w.heap.size+1) (.inl ((hN _).2 (.inr (.inl rfl)))) _).trans (N:=N) g4 (fun k _ h=>h) (fun k hk h=>?_)).putObj (l:=w.heap.size+1) (.inl ((hN _).2 (.inr (.inl rfl)))) _);rcases h with h|h
     . exact(hN k).2 (.inl h)
     . omega
    .
     rintro k (hk|hk)
     .
      rcases g3 k hk with h|h
      . exact .inl ((hN k).2 (.inl h))
      . exact .inr h
     . exact .inl ((hN k).2 (.inr hk))
  | ret=>exact hp.elim
  | exit id=>exact hp.elim
  | goto t=>exact hp.elim
  | panic ch=>exact hp.elim
  | outgrown=>exact hp.elim
 . exact⟨M0,gv,fun k=>Iff.rfl,fun e=>by have:=(g2 _ e).2;omega,fun e=>by have:=(g2 _ e).2;omega,fun k h=>.inl h,gu,gw⟩
 .
  rintro e W2 ⟨⟨v,rfl⟩,xs,N,g7,⟨M,hi,hN,h2,h3,h4,hl,hd⟩,gh,_⟩;refine⟨none,_,run_endLoop (P:=P) hl (by simp[rec0]),hdone xs _ M _ g7 (Nat.le_refl _) h3 ?_ h4 ?_ ((World.putObj_heap_other (by omega)).trans hd)⟩
  . exact hMi _ _ _ _ hi ((Wr.refl _ _).putObj (.inl ⟨by omega,h2⟩) _)
  . exact((g5 (fun k=>n₀<=k)).trans gh (fun _ _ h=>h) (fun _ _ h=>h)).putObj (.inl (by omega)) _
end
end Go.Proofs.YtkbegdkpboklpaaGreat

namespace Go.Proofs.YtkbegdkpboklpaaGreat
open Go.Proofs.Tryz
open Go.RowKit Go.Shelf
open Go.ChangeMaps (setBlock)
def Zdr (q:Nat×Nat):List Value:=[.int .i64 q.1,.int .i64 q.2]
theorem Zjs {α β:Type}{f:α->β}{l:List α}(h:(l.map f).Nodup):l.Nodup:=(List.pairwise_map.1 h).imp fun hne e=>hne (congrArg f e)
def Ya8:Value->Nat
 | .int _ n=>n.toNat
 | _=>0
def unE:Value->Nat×Nat
 | .agg cs=>(Ya8 (cs.getD 0 undef),Ya8 (cs.getD 1 undef))
 | _=>(0,0)
theorem Ya7 (q:Nat×Nat):unE (encE q)=q:=by simp[unE,encE,Ya8]
structure Zkm (es:Array MapEntry)(clock:Nat)(seen:Array Nat)(ks:List (Nat×Nat))(sl:List MapEntry):Prop where
 sub:∀ e∈sl,e∈es.toList
 born:sl.map (·.born)=seen.toList
 nodup:(sl.map (·.born)).Nodup
 keys:sl.map (·.key)=ks.map encE
theorem Zkm.start (es:Array MapEntry)(clock:Nat):Zkm es clock #[] [] []:=⟨fun _ h=>(by cases h),rfl,List.nodup_nil,rfl⟩
theorem Zkm.next {es:Array MapEntry}{clock:Nat}{seen:Array Nat}{ks:List (Nat×Nat)}{sl:List MapEntry}(h:Zkm es clock seen ks sl){e:MapEntry}(he:e∈(leftOf es seen).toList){q:Nat×Nat}(hq:e.key=encE q):Zkm es clock (seen.push e.born) (ks++[q]) (sl++[e]):=by
 obtain⟨h1,h2⟩:=mem_left he;refine⟨fun x hx=>?_,by simp[h.born],?_,by simp[h.keys,hq]⟩
 .
  rcases List.mem_append.1 hx with hx|hx
  . exact h.sub x hx
  . simp at hx;subst hx;exact h1
 .
  rw[List.map_append,List.nodup_append];refine⟨h.nodup,by simp,fun a ha b hb=>?_⟩;simp at hb;subst hb;rintro rfl;rw[h.born] at ha;have:seen.contains e.born=true:=by simpa using ha
  rw[this] at h2;cases h2
theorem Zkm.all {es:Array MapEntry}{clock:Nat}{seen:Array Nat}{ks:List (Nat×Nat)}{sl:List MapEntry}(h:Zkm es clock seen ks sl)(hn:(es.toList.map (·.born)).Nodup)(h0:(leftOf es seen).size=0):sl.Perm es.toList:=by
 have g0:=all_seen es seen h0;refine(List.perm_ext_iff_of_nodup (Zjs h.nodup) (Zjs hn)).2 fun e=>⟨h.sub e,fun he=>?_⟩
 have h1:=g0 e he;have h2:e.born∈sl.map (·.born):=by rw[h.born];simpa using h1
 obtain⟨x,hx,e1⟩:=List.mem_map.1 h2;have:x=e:=born_inj hn (h.sub x hx) he e1;rw[<- this];exact hx
theorem Zkm.keysOf {w:World}{b:Nat}{l:List ((Nat×Nat)×Value)}{es:Array MapEntry}{clock:Nat}{seen:Array Nat}{ks:List (Nat×Nat)}{sl:List MapEntry}(h:Zkm es clock seen ks sl)(hn:(es.toList.map (·.born)).Nodup)(h0:(leftOf es seen).size=0)
 (hl:es.toList.map (fun e=>(e.key,e.val))=l.map (fun p=>(encE p.1,p.2))):ks.Perm (l.map Prod.fst):=by
 have h1:(ks.map encE).Perm ((l.map Prod.fst).map encE):=by
  rw[<- h.keys];have h2:=(h.all hn h0).map (fun e:MapEntry=>e.key);refine h2.trans ?_;have h3:=congrArg (List.map Prod.fst) hl;simp only[List.map_map] at h3;have e1:(es.toList.map fun e:MapEntry=>e.key)=(l.map Prod.fst).map encE:=by
   rw[List.map_map];exact h3
  rw[e1]
 have h2:=h1.map unE;simpa [List.map_map,Function.comp_def,Ya7] using h2
theorem Yao:(prog.info? 291).map (fun i=>(i.zero,i.size,i.bytes))=some (some (.agg #[.int .i64 0,.int .i64 0]),2,16):=by kernel_rfl
structure KeyS (W0:World)(mb r clock:Nat)(es:Array MapEntry)(seen:Array Nat)(ks:List (Nat×Nat))(sl:List MapEntry)(v:Value)(oG:Own)(wr:World):Prop where
 low:Below W0.heap.size W0 wr
 it:wr.heap[r]?=some (.mapIter (some mb) clock seen clock)
 came:Zkm es clock seen ks sl
 row:RowR oG wr .slots 291 2 v ks.length (ks.flatMap Zdr)
 lt:Zal oG wr
 ge:∀ k q,oG k=some q->q=.slots/\W0.heap.size<=k
 no:oG r=none
 cnt:ks.length+(leftOf es seen).size<=es.size
theorem KeyS.next {W0:World}{mb r clock:Nat}{es:Array MapEntry}{seen:Array Nat}{ks:List (Nat×Nat)}{sl:List MapEntry}{v v':Value}{oG o1:Own}{wr w1 w2 w3 w4:World}(h:KeyS W0 mb r clock es seen ks sl v oG wr)(hr0:W0.heap.size<=r){e:MapEntry}(he:e∈(leftOf es seen).toList){q:Nat×Nat}(hq:e.key=encE q)
 (hw1:w1=wr\/w1=wr.drew) (hw2:w2=setBlock w1 r (.mapIter (some mb) clock (seen.push e.born) clock)) (hb3:Below w2.heap.size w2 w3)
 (hr:RowR o1 w4 .slots 291 2 v' (ks.length+1) (ks.flatMap Zdr++Zdr q)) (hc:Chg (· = .slots) oG o1 w3 w4) (hl:Zal o1 w4) :
 KeyS W0 mb r clock es (seen.push e.born) (ks++[q]) (sl++[e]) v' o1 w4:=by
 have g0:r<wr.heap.size:=(Array.getElem?_eq_some_iff.1 h.it).1;have z2:w2.heap.size=wr.heap.size:=by rw[hw2];rcases hw1 with rfl|rfl<;>simp[setBlock]
 have i2:w2.heap[r]?=some (.mapIter (some mb) clock (seen.push e.born) clock):=by rw[hw2];rcases hw1 with rfl|rfl<;>simp[setBlock,g0]
 have k2:∀ g,g≠r->w2.heap[g]?=wr.heap[g]?:=fun g hg=>by
  rw[hw2];rcases hw1 with rfl|rfl<;>simp[setBlock,Array.getElem?_setIfInBounds,Ne.symm hg]<;>rfl
 have b2:Below W0.heap.size W0 w2:=h.low.trans ⟨by rw[hw2];rcases hw1 with rfl|rfl<;>rfl,by rw[hw2];rcases hw1 with rfl|rfl<;>rfl,by rw[hw2];rcases hw1 with rfl|rfl<;>rfl,by omega,fun g hg=>k2 g (by omega)⟩;have nn:∀ g,g<W0.heap.size->oG g=none:=fun g hg=>by
  cases eo:oG g with
  | none=>rfl
  | some r=>have:=(h.ge g r eo).2;omega
 have s0:=h.low.size;have b3:=b2.trans (hb3.mono (by omega));refine⟨b3.trans ⟨hc.os,hc.tape,hc.output,hc.size,fun g hg=>hc.alien (by have:=b3.size;omega) (nn g hg)⟩,?_,h.came.next he hq,by simpa using hr,hl,fun g q hg=>?_,hc.alien' (by have:=hb3.size;omega) h.no,by have h1:=left_shrinks es seen e he;have h2:=h.cnt;simp;omega⟩
 . rw[hc.alien (by have:=hb3.size;omega) h.no,hb3.block r (by omega)];exact i2
 .
  by_cases eo:o1 g=oG g
  . rw[eo] at hg;exact h.ge g q hg
  .
   obtain⟨a1,p,a2,a3⟩:=hc.new g eo;rw[hg] at a2;cases a2
   have:=hb3.size;exact⟨a3,by omega⟩
theorem KeyS.row3 {W0:World}{mb r clock:Nat}{es:Array MapEntry}{seen:Array Nat}{ks:List (Nat×Nat)}{sl:List MapEntry}{v:Value}{oG:Own}{wr w1 w2 w3:World}(h:KeyS W0 mb r clock es seen ks sl v oG wr){x:Obj}(hw1:w1=wr\/w1=wr.drew)(hw2:w2=setBlock w1 r x)(hb3:Below w2.heap.size w2 w3) :
 RowR oG w3 .slots 291 2 v ks.length (ks.flatMap Zdr)/\Zal oG w3:=by
 have z2:w2.heap.size=wr.heap.size:=by rw[hw2];rcases hw1 with rfl|rfl<;>simp[setBlock]
 have k2:∀ g,g≠r->w2.heap[g]?=wr.heap[g]?:=fun g hg=>by
  rw[hw2];rcases hw1 with rfl|rfl<;>simp[setBlock,Array.getElem?_setIfInBounds,Ne.symm hg]<;>rfl
 refine⟨h.row.keep (fun g hg=>?_) (fun _ h=>h),h.lt.mono (by have:=hb3.size;omega)⟩;have h1:=h.lt g _ hg;rw[hb3.block g (by omega)];exact k2 g (by rintro rfl;rw[h.no] at hg;cases hg)
end Go.Proofs.YtkbegdkpboklpaaGreat

namespace Go.Proofs
open Go.Proofs.Tryz
open Go.Shelf
def Tryz.sortKeys_ren:Go.Shelf.Ren:=⟨fun|6=>247|15=>254|14=>253|28=>265|29=>266|20=>257|21=>258|22=>259|23=>260|24=>261|25=>262|26=>263|27=>264|46=>267|47=>268|48=>269|49=>270|50=>271|57=>272|n=>n,fun|22=>307|24=>291|25=>318|3=>3|39=>166|0=>0|53=>162|55=>92|4=>4|46=>323|45=>322|50=>78|5=>5|9=>9|66=>330|70=>334|76=>336|77=>96|n=>n,fun|n=>n⟩
theorem Tryz.sortKeys:Go.Proofs.SlLaysF0.n6 prog Tryz.sortKeys_ren:={
 mixed:=by kernel_rfl
 f6:=⟨Tryz.f247.name,by decide,func247.trans (congrArg some (by kernel_rfl))⟩
 f14:=⟨Tryz.f253.name,by decide,func253.trans (congrArg some (by kernel_rfl))⟩
 f15:=func254.trans (congrArg some (by kernel_rfl))
 f20:=⟨Tryz.f257.name,by decide,func257.trans (congrArg some (by kernel_rfl))⟩
 f21:=⟨Tryz.f258.name,by decide,func258.trans (congrArg some (by kernel_rfl))⟩
 f22:=⟨Tryz.f259.name,by decide,func259.trans (congrArg some (by kernel_rfl))⟩
 f23:=⟨Tryz.f260.name,by decide,func260.trans (congrArg some (by kernel_rfl))⟩
 f24:=⟨Tryz.f261.name,by decide,func261.trans (congrArg some (by kernel_rfl))⟩
 f25:=⟨Tryz.f262.name,by decide,func262.trans (congrArg some (by kernel_rfl))⟩
 f26:=⟨Tryz.f263.name,by decide,func263.trans (congrArg some (by kernel_rfl))⟩
 f27:=⟨Tryz.f264.name,by decide,func264.trans (congrArg some (by kernel_rfl))⟩
 f28:=func265.trans (congrArg some (by kernel_rfl))
 f29:=func266.trans (congrArg some (by kernel_rfl))
 f46:=⟨Tryz.f267.name,by decide,func267.trans (congrArg some (by kernel_rfl))⟩
 f47:=func268.trans (congrArg some (by kernel_rfl))
 f48:=func269.trans (congrArg some (by kernel_rfl))
 f49:=⟨Tryz.f270.name,by decide,func270.trans (congrArg some (by kernel_rfl))⟩
 f50:=⟨Tryz.f271.name,by decide,func271.trans (congrArg some (by kernel_rfl))⟩
 f57:=⟨Tryz.f272.name,by decide,func272.trans (congrArg some (by kernel_rfl))⟩
 t0:=underlying0
 a0:=Tryz.isAgg0
 z0:=Tryz.sizeOf0
 v0:=zeroValue0
 t3:=underlying3
 a3:=Tryz.isAgg3
 z3:=Tryz.sizeOf3
 v3:=zeroValue3
 t4:=underlying4
 a4:=Tryz.isAgg4
 z4:=Tryz.sizeOf4
 v4:=zeroValue4
 t5:=underlying5
 a5:=Tryz.isAgg5
 z5:=Tryz.sizeOf5
 v5:=zeroValue5
 t9:=underlying9
 a9:=Tryz.isAgg9
 z9:=Tryz.sizeOf9
 v9:=zeroValue9
 t22:=underlying307
 a22:=Tryz.isAgg307
 z22:=Tryz.sizeOf307
 v22:=zeroValue307
 t25:=underlying318
 a25:=Tryz.isAgg318
 z25:=Tryz.sizeOf318
 v25:=zeroValue318
 t39:=underlying166
 a39:=Tryz.isAgg166
 z39:=Tryz.sizeOf166
 v39:=zeroValue166
 t45:=underlying322
 a45:=Tryz.isAgg322
 z45:=Tryz.sizeOf322
 v45:=zeroValue322
 t46:=underlying323
 a46:=Tryz.isAgg323
 z46:=Tryz.sizeOf323
 v46:=zeroValue323
 t50:=underlying78
 a50:=Tryz.isAgg78
 z50:=Tryz.sizeOf78
 v50:=zeroValue78
 t53:=underlying162
 a53:=Tryz.isAgg162
 z53:=Tryz.sizeOf162
 v53:=zeroValue162
 t55:=underlying92
 a55:=Tryz.isAgg92
 z55:=Tryz.sizeOf92
 v55:=zeroValue92
 t66:=underlying330
 a66:=Tryz.isAgg330
 z66:=Tryz.sizeOf330
 v66:=zeroValue330
 t70:=underlying334
 a70:=Tryz.isAgg334
 z70:=Tryz.sizeOf334
 v70:=zeroValue334
 t76:=underlying336
 a76:=Tryz.isAgg336
 z76:=Tryz.sizeOf336
 v76:=zeroValue336
 t77:=underlying96
 a77:=Tryz.isAgg96
 z77:=Tryz.sizeOf96
 v77:=zeroValue96 }
def Tryz.cmpInt_ren:Go.Shelf.Ren:=⟨fun|5=>250|7=>255|n=>n,fun|22=>3|3=>3|4=>4|n=>n,fun|n=>n⟩
theorem Tryz.cmpInt:Go.Proofs.SlLaysC2.n5 prog Tryz.cmpInt_ren:={
 mixed:=by kernel_rfl
 f5:=⟨Tryz.f250.name,by decide,func250.trans (congrArg some (by kernel_rfl))⟩
 f7:=⟨Tryz.f255.name,by decide,func255.trans (congrArg some (by kernel_rfl))⟩
 t3:=underlying3
 a3:=Tryz.isAgg3
 z3:=Tryz.sizeOf3
 v3:=zeroValue3
 t4:=underlying4
 a4:=Tryz.isAgg4
 z4:=Tryz.sizeOf4
 v4:=zeroValue4
 t22:=underlying3
 a22:=Tryz.isAgg3
 z22:=Tryz.sizeOf3
 v22:=zeroValue3 }
def Tryz.cmpEdge_ren:Go.Shelf.Ren:=⟨fun|5=>251|7=>256|n=>n,fun|22=>151|3=>3|4=>4|n=>n,fun|n=>n⟩
theorem Tryz.cmpEdge:Go.Proofs.SlLaysC2.n5 prog Tryz.cmpEdge_ren:={
 mixed:=by kernel_rfl
 f5:=⟨Tryz.f251.name,by decide,func251.trans (congrArg some (by kernel_rfl))⟩
 f7:=⟨Tryz.f256.name,by decide,func256.trans (congrArg some (by kernel_rfl))⟩
 t3:=underlying3
 a3:=Tryz.isAgg3
 z3:=Tryz.sizeOf3
 v3:=zeroValue3
 t4:=underlying4
 a4:=Tryz.isAgg4
 z4:=Tryz.sizeOf4
 v4:=zeroValue4
 t22:=underlying151
 a22:=Tryz.isAgg151
 z22:=Tryz.sizeOf151
 v22:=zeroValue151 }
end Go.Proofs

namespace Go.Proofs.YtkbegdkpboklpaaGreat
open Go.Proofs.Tryz
open Go.RowKit Go.Shelf Go.Lib Go.Sort
def orI:List Int->Int
 | []=>0
 | z::zs=>if z=0 then orI zs else z
theorem Zyj {zs:List Int}{k:Nat}(hk:k<zs.length):orI (zs.drop k)=if at0 zs k=0 then orI (zs.drop (k+1)) else at0 zs k:=by
 rw[Za8 hk,List.drop_eq_getElem_cons hk];rfl
theorem Ybq (a:Option Addr)(c:Nat)(zs:List Int)(w:World)(hz:Za4 w a zs)(hl:zs.length<=1000000) :
 Calls prog 249 #[.slice a zs.length c] w fun x w'=>x=.returned (.int .i64 (orI zs))/\w'=w:=by
 have HZ:=Hd hz;clear hz
 go_enter func249,ntmps249
 go_wp2_with fail
 go_loopw [8] (fun s8 wr=>∃ k:Nat,k<=zs.length/\s8=.int .i64 k/\w=wr/\orI zs=orI (zs.drop k)) (fun s8 _=>zs.length-(intOf s8).toNat)
 case atStart=>exact⟨0,Nat.zero_le _,rfl,rfl,rfl⟩
 case round =>
  obtain⟨k,hk,rfl,rfl,ho⟩:=hrel
  by_cases g0:k<zs.length
  .
   obtain⟨b,off,ha,hc⟩:=HZ.out.cells k g0;subst ha;have g2:(k:Int)<zs.length:=by omega
   have hs:=Zyj g0
   by_cases h0:at0 zs k=0
   .
    rw[if_pos h0] at hs;rw[h0] at hc;have HO:=Hd (ho.trans hs);clear ho hs h0;go_wp2_with fail;go_roundw
    case rel=>exact⟨k+1,by omega,by go_num,trivial,HO.out⟩
    case measure=>simp[intOf];omega
   .
    rw[if_neg h0] at hs;have HO:=Hd (ho.trans hs);have g1:(at0 zs k == (0:Int))=false:=by simpa using h0
    clear ho hs h0
    generalize at0 zs k=z at hc g1 HO
    go_wp2_with fail;go_ret;exact⟨by rw[HO.out];rfl,rfl⟩
  .
   obtain rfl:k=zs.length:=by omega
   have HO:Hid (orI zs=0):=by
    refine Hd ?_
    show _=_
    rw[ho];simp[orI]
   clear ho;go_wp2_with fail;go_ret;exact⟨by rw[HO.out];rfl,rfl⟩
def cfK (f:Nat×Nat->Option Nat)(x y:Nat×Nat):Int:=orI [compareInt ((f x).getD 0:Nat) ((f y).getD 0:Nat),compareInt x.1 y.1,compareInt x.2 y.2]
theorem ltK (f:Nat×Nat->Option Nat)(x y:Nat×Nat):ltOf (cfK f) x y=decide ((f x).getD 0<(f y).getD 0\/(f x).getD 0=(f y).getD 0/\(x.1<y.1\/x.1=y.1/\x.2<y.2)):=by
 unfold ltOf cfK
 generalize (f x).getD 0=a
 generalize (f y).getD 0=b
 obtain⟨x1,x2⟩:=x;obtain⟨y1,y2⟩:=y;have hc:∀ p q:Nat,compareInt (p:Int) (q:Int)=if p<q then -1 else if p=q then 0 else 1:=fun p q=>by
  unfold compareInt
  by_cases h1:p<q
  . rw[if_pos (by omega),if_pos h1]
  .
   by_cases h2:p=q
   . rw[if_neg (by omega),if_neg (by omega),if_neg h1,if_pos h2]
   . rw[if_neg (by omega),if_pos (by omega),if_neg h1,if_neg h2]
 simp only[hc,orI]
 by_cases h1:a<b
 . simp[h1]
 .
  by_cases h2:a=b
  .
   subst h2
   by_cases h3:x1<y1
   . simp[h3]
   .
    by_cases h4:x1=y1
    .
     subst h4
     by_cases h5:x2<y2
     . simp[h5]
     .
      by_cases h6:x2=y2
      . subst h6;simp
      . simp[h5,h6]
    . simp[h3,h4]
  . simp[h1,h2]
theorem swoK (f:Nat×Nat->Option Nat):SWO (ltOf (cfK f)) where
 irrefl x:=by rw[ltK];simp
 trans x y z h1 h2:=by rw[ltK] at *;simp at *;omega
 ntrans x y z h1 h2:=by rw[ltK] at *;simp at *;omega
theorem Ztk (f:Nat×Nat->Option Nat)(x y:Nat×Nat)(Bx t mb:Nat)(W:World)(cB:W.cell? ⟨Bx,0,none⟩=some (.pointer (some ⟨t,0,none⟩)))(cT:W.cell? ⟨t,0,none⟩=some (.map (some mb)))
 (hlk:∀ W' k,Below W.heap.size W W'->(Instr.lookup 265 (.map (some mb)) (.agg #[.int .i64 (k:Nat×Nat).1,.int .i64 k.2]) false).run prog W'=.ok (.int .i64 ((f k).getD 0:Nat)) W') :
 Calls prog 248 #[.agg #[.int .i64 x.1,.int .i64 x.2],.agg #[.int .i64 y.1,.int .i64 y.2],.pointer (some ⟨Bx,0,none⟩)] W fun e w'=>e=.returned (.int .i64 (cfK f x y))/\∃ q os',w'=grow (W.drewN q) os':=by
 obtain⟨W1,g2⟩:∃ W1,W1=(W.alloc (.cells #[.int .i64 x.1,.int .i64 x.2] 291)).alloc (.cells #[.int .i64 y.1,.int .i64 y.2] 291):=⟨_,rfl⟩;have g0:Below W.heap.size W W1:=by rw[g2];exact(Zad _ _).alloc (by simp) _
 have g5:W1.heap[W.heap.size]?=some (.cells #[.int .i64 x.1,.int .i64 x.2] 291 (0,0)):=by rw[g2];exact(Below.heap_alloc _ _ _ (by simp)).trans (heap_alloc_new W _)
 have g4:W1.heap[W.heap.size+1]?=some (.cells #[.int .i64 y.1,.int .i64 y.2] 291 (0,0)):=by
  rw[g2];have:=heap_alloc_new (W.alloc (.cells #[.int .i64 x.1,.int .i64 x.2] 291)) (.cells #[.int .i64 y.1,.int .i64 y.2] 291)
  rwa [World.size_alloc] at this
 obtain⟨x0,x1,_⟩:=cells2 g5;obtain⟨y0,y1,_⟩:=cells2 g4;have b1:=(g0.cell (p:=⟨Bx,0,none⟩) (Zaa cB)).trans cB;have t1:=(g0.cell (p:=⟨t,0,none⟩) (Zaa cT)).trans cT;obtain⟨i,hi⟩:∃ i:Int,i=compareInt ((f x).getD 0:Nat) ((f y).getD 0:Nat):=⟨_,rfl⟩;obtain⟨j,hj⟩:∃ j:Int,j=compareInt x.1 y.1:=⟨_,rfl⟩;obtain⟨k,hk⟩:∃ k:Int,k=compareInt x.2 y.2:=⟨_,rfl⟩;have g6:cfK f x y=orI [i,j,k]:=by unfold cfK;rw[hi,hj,hk]
 obtain⟨W2,g3⟩:∃ W2,W2=W1.drew.alloc (.cells #[.int .i64 i,.int .i64 j,.int .i64 k] 3):=⟨_,rfl⟩;have g1:Below W1.heap.size W1 W2:=by rw[g3];exact(Zaf W1 1).alloc (Nat.le_refl _) _
 have lx0:=hlk W1.drew x (g0.trans ((Zaf W1 1).mono g0.size));have ly0:=hlk W1.drew y (g0.trans ((Zaf W1 1).mono g0.size));have lx2:=hlk W2 x (g0.trans (g1.mono g0.size));have ly2:=hlk W2 y (g0.trans (g1.mono g0.size));have x02:=(g1.cell (p:=⟨W.heap.size,0,none⟩) (Zaa x0)).trans x0;have x12:=(g1.cell (p:=⟨W.heap.size,1,none⟩) (Zaa x1)).trans x1;have y02:=(g1.cell (p:=⟨W.heap.size+1,0,none⟩) (Zaa y0)).trans y0;have y12:=(g1.cell (p:=⟨W.heap.size+1,1,none⟩) (Zaa y1)).trans y1;have b2:=(g1.cell (p:=⟨Bx,0,none⟩) (Zaa b1)).trans b1;have t2:=(g1.cell (p:=⟨t,0,none⟩) (Zaa t1)).trans t1;have HI:=Hd (fun w=>AnyG.cmp_Compare_int Tryz.cmpInt ((f x).getD 0:Nat) ((f y).getD 0:Nat) w);have HJ:=Hd (fun w=>AnyG.cmp_Compare_int Tryz.cmpEdge x.1 y.1 w);have HK:=Hd (fun w=>AnyG.cmp_Compare_int Tryz.cmpEdge x.2 y.2 w)
 have g8:Hid (Calls prog 249 #[.slice (some ⟨W1.drew.heap.size,0,none⟩) 3 3] W2 fun e w'=>e=.returned (.int .i64 (orI [i,j,k]))/\w'=W2):=Hd (Ybq _ 3 [i,j,k] W2 ⟨by simp,fun q hq=>⟨_,0,rfl,by
  rw[Nat.zero_add,g3,cell_of_row _ _ _ _ _ _ (heap_alloc_new W1.drew _)];simp only[List.length_cons,List.length_nil] at hq
  match q,hq with
  | 0,_=>rfl
  | 1,_=>rfl
  | 2,_=>rfl⟩⟩ (by simp))
 have HW1:Hid (_=W1):=Hd g2.symm;have g7:Hid (_=W2):=Hd g3.symm;have g9:Hid (W2=grow (W.drewN 1) #[.cells #[.int .i64 x.1,.int .i64 x.2] 291,.cells #[.int .i64 y.1,.int .i64 y.2] 291,.cells #[.int .i64 i,.int .i64 j,.int .i64 k] 3]):=Hd (by rw[g3,g2,Zhf,Zhf,alloc_eq_grow,alloc_eq_grow,alloc_eq_grow,grow_grow,grow_grow];rfl);rw[<- hi] at HI;rw[<- hj] at HJ;rw[<- hk] at HK;rw[g6];clear g2 g3 g0 g1 hlk cB cT hi hj hk g6 g5 g4
 go_enter func248,ntmps248
 go_upto_region 1 with fail;rw[HW1.out];refine Zam (fun W:World=>W=W1.drew\/W=W2) false 26 [(0,false),(1,false),(2,false),(3,false),(4,false),(5,false),(6,false),(7,false),(8,false),(9,false),(10,false),(11,false),(13,false),(14,false),(15,false),(16,false),(18,false),(19,false),(20,false),(21,false),(12,true),(17,true),(22,true),(23,true),(24,true),(25,false)] (by kernel_rfl) (by kernel_rfl) (.inl rfl) ?_;simp only[planned,Zcc]
 iterate 20
  refine Zaj rfl ?_;apply Exists.intro;refine⟨fun w' hw=>?_,?_⟩
  .
   rcases hw with rfl|rfl
   . go_simp;rfl
   .
    go_simp
    all_goals (try rfl)
  simp only[Zae]
 refine Zb6 (R:=fun v w'=>v=.int .i64 i/\w'=W1.drew) rfl (by go_simp;rfl) ((HI.out _).mono (fun e w' h=>⟨_,h.1,.inl h.2,rfl,h.2⟩)) ?_;rintro _ w' _ ⟨rfl,rfl⟩;simp only[Zae];refine Zb6 (R:=fun v w'=>v=.int .i64 j/\w'=W1.drew) rfl (by go_simp;rfl) ((HJ.out _).mono (fun e w' h=>⟨_,h.1,.inl h.2,rfl,h.2⟩)) ?_;rintro _ w' _ ⟨rfl,rfl⟩;simp only[Zae];refine Zb6 (R:=fun v w'=>v=.int .i64 k/\w'=W1.drew) rfl (by go_simp;rfl) ((HK.out _).mono (fun e w' h=>⟨_,h.1,.inl h.2,rfl,h.2⟩)) ?_;rintro _ w' _ ⟨rfl,rfl⟩;simp only[Zae];refine Zk5 rfl (fun K hK=>?_);unfold Oper.wp;go_simp;rw[Zhf,g7.out];refine hK _ _ (.inr rfl) ?_;refine Zb6 (R:=fun v w'=>v=.int .i64 (orI [i,j,k])/\w'=W2) rfl (by go_simp) (g8.out.mono (fun e w' h=>⟨_,h.1,.inr h.2,rfl,h.2⟩)) ?_;rintro _ w' _ ⟨rfl,rfl⟩;simp only[Zae];refine Zaj rfl ?_;apply Exists.intro;refine⟨fun w' hw=>?_,?_⟩
 . go_simp;rfl
 simp only[Zae];refine Zb8 ?_;go_wp2_with fail;go_ret;exact⟨rfl,_,_,g9.out⟩
end Go.Proofs.YtkbegdkpboklpaaGreat

namespace Go.Proofs.YtkbegdkpboklpaaGreat
open Go.Proofs.Tryz
open Go.RowKit Go.Shelf Go.Lib Go.Sort
theorem Zrm (w:World)(blk m:Nat)(dk:Array (Nat×Nat))(os:Array Obj){g:Nat}(hg:g<w.heap.size)(hne:g≠blk):(sortWorldK Zdr 2 w blk 0 m dk os).heap[g]?=w.heap[g]?:=by
 unfold sortWorldK grow putRowK putRow mapBlock;simp[Array.getElem?_append,Array.getElem?_modify,Array.getElem_modify,hg,Ne.symm hne]
theorem Zxa (w:World)(blk m:Nat)(dk:Array (Nat×Nat))(os:Array Obj):w.heap.size<=(sortWorldK Zdr 2 w blk 0 m dk os).heap.size:=by
 have h:(sortWorldK Zdr 2 w blk 0 m dk os).heap.size=w.heap.size+os.size:=by
  unfold sortWorldK grow putRowK;simp
 omega
theorem Ybm {w:World}{mb:Nat}{lm:List ((Nat×Nat)×Value)}{f:Nat×Nat->Option Nat}(h:Zcw w mb encE lm)(hf:∀ k,getL lm k=(f k).map (fun(id:Nat)=>Value.int .i64 id))(k:Nat×Nat) :
 (Instr.lookup 265 (.map (some mb)) (.agg #[.int .i64 k.1,.int .i64 k.2]) false).run prog w=.ok (.int .i64 ((f k).getD 0:Nat)) w:=by
 have h1:=h.lookup Zpg underlying265 zeroValue3 k false;rw[hf k] at h1;cases hk:f k with
 | none=>rw[hk] at h1;exact h1
 | some id=>rw[hk] at h1;exact h1
theorem Zq7 {f:Nat×Nat->Option Nat}{ks:List (Nat×Nat)}{Bx t mb blk cap:Nat}{w:World}{lm:List ((Nat×Nat)×Value)}(hH:HoldsK Zdr 2 w blk 0 ks.toArray)(hblk:blk<w.heap.size)(hlen:ks.length<1000000000)
 (cB:w.cell? ⟨Bx,0,none⟩=some (.pointer (some ⟨t,0,none⟩))) (cT:w.cell? ⟨t,0,none⟩=some (.map (some mb))) (hm:Zcw w mb encE lm) (hf:∀ k,getL lm k=(f k).map (fun(id:Nat)=>Value.int .i64 id)) (n1:Bx≠blk) (n2:t≠blk) (n3:mb≠blk) :
 Calls prog 247 #[.slice (some ⟨blk,0,none⟩) ks.length cap,.func (.func 248) #[] #[.pointer (some ⟨Bx,0,none⟩)]] w fun e w'=>e=.returned (.tuple #[])/\∃ ks':List (Nat×Nat),ks'.Perm ks/\HoldsK Zdr 2 w' blk 0 ks'.toArray/\w.heap.size<=w'.heap.size/\w'.os=w.os/\w'.tape=w.tape/\w'.output=w.output/\∀ g,g<w.heap.size->g≠blk->w'.heap[g]?=w.heap[g]?:=by
 have g1:CmpLays prog 248 #[.pointer (some ⟨Bx,0,none⟩)] Zdr 2 (cfK f) blk 0 ks.toArray.size w:=by
  intro m os dk hs x y;have hk:∀ {p:Addr} {v:Value},w.cell? p=some v->p.block≠blk->(sortWorldK Zdr 2 w blk 0 m dk os).cell? p=some v:=fun hc hn=>(World.cell?_of_block (w:=w) (Zrm w blk m dk os (Zaa hc) hn)).trans hc
  refine Ztk f x y Bx t mb _ (hk cB n1) (hk cT n2) (fun W' k hb=>?_);obtain⟨es,c,g3,rest⟩:=hm.ex;refine Ybm (lm:=lm) ⟨⟨es,c,Eq.trans ?_ g3,rest⟩,hm.nodup⟩ hf k;exact(hb.block mb (Nat.lt_of_lt_of_le hm.lt (Zxa w blk m dk os))).trans (Zrm w blk m dk os hm.lt n3)
 have g0:=AnyQ.slices_SortFunc Tryz.sortKeys 2 Tryz.isAgg291 Tryz.sizeOf291 Zdr (fun _=>rfl) (fun x v hv=>by simp[Zdr] at hv;rcases hv with rfl|rfl<;>rfl) (cfK f) (swoK f) 248 #[.pointer (some ⟨Bx,0,none⟩)] blk 0 cap ks.toArray w (enters_of func248 (by kernel_rfl) rfl) g1 hH hblk (by simp;omega)
 change Calls prog 247 _ _ _ at g0
 have e:ks.toArray.size=ks.length:=by simp
 rw[e] at g0;refine g0.mono ?_;rintro x w' ⟨rfl,d',n,os,hp,_,rfl⟩;obtain⟨p1,_,p3⟩:=hp;have p1':d'.size=ks.length:=by simpa using p1
 refine⟨rfl,d'.toList,?_,?_,Zxa _ _ _ _ _,rfl,rfl,rfl,fun g hg g2=>Zrm _ _ _ _ _ hg g2⟩
 .
  have q1:d'.extract 0 ks.length=d':=by rw[<- p1'];simp
  rw[q1] at p3;simpa using p3
 . have h1:HoldsK Zdr 2 (Sort.ahead w n) blk 0 ks.toArray:=hH;have h2:=holdsK_putRowK Zdr 2 (Sort.ahead w n) blk 0 ks.toArray d' h1 (by simpa using p1');have h3:=holdsK_grow Zdr 2 (putRowK Zdr 2 (Sort.ahead w n) blk 0 d') os blk 0 d' (by simp[putRowK,putRow,mapBlock,hblk]) h2;simpa using(show HoldsK Zdr 2 (sortWorldK Zdr 2 w blk 0 n d' os) blk 0 d' from h3)
end Go.Proofs.YtkbegdkpboklpaaGreat

namespace Go.Proofs.YtkbegdkpboklpaaGreat
open Go.Proofs.Tryz
theorem Zvn {f:Nat×Nat->Option Nat}{ks:List (Nat×Nat)}{lm:List ((Nat×Nat)×Value)}(hp:ks.Perm (lm.map Prod.fst))(hn:(lm.map Prod.fst).Nodup)(hf:∀ k,getL lm k=(f k).map (fun(id:Nat)=>Value.int .i64 id)){xs:List ((Nat×Nat)×Nat)}(hx:xs=ks.map (fun k=>(k,(f k).getD 0))) :
 (xs.map Prod.fst).Nodup/\∀ k id,(k,id)∈xs↔f k=some id:=by
 subst hx;have e:(ks.map (fun k=>(k,(f k).getD 0))).map Prod.fst=ks:=by simp[List.map_map,Function.comp_def]
 have hm:∀ k,k∈ks↔f k≠none:=fun k=>by
  rw[hp.mem_iff];have h1:=Zez (l:=lm) (k:=k);rw[hf k] at h1;constructor
  . intro hk e;rw[e] at h1;obtain⟨p,g0,rfl⟩:=List.mem_map.1 hk;exact h1.1 rfl p g0 rfl
  .
   intro hk
   by_cases hc:k∈lm.map Prod.fst
   . exact hc
   .
    exfalso;have:=h1.2 (fun p g0 e=>hc (List.mem_map.2 ⟨p,g0,e⟩));cases h2:f k with
    | none=>exact hk h2
    | some i=>rw[h2] at this;cases this
 refine⟨by rw[e];exact hp.nodup_iff.2 hn,fun k id=>?_⟩;simp only[List.mem_map,Prod.mk.injEq];constructor
 .
  rintro⟨k0,h0,rfl,rfl⟩;cases h2:f k0 with
  | none=>exact absurd h2 ((hm k0).1 h0)
  | some i=>rfl
 . intro h;exact⟨k,(hm k).2 (by rw[h];simp),rfl,by rw[h];rfl⟩
theorem Zyx {α:Type}{G:List α->Prop}{xs:List α}(hg:G xs){k:Nat}{x:α}(hx:xs[k]?=some x):∃ suf,G (xs.take k++x::suf)/\xs.take (k+1)=xs.take k++[x]:=by
 obtain⟨hk,e⟩:=List.getElem?_eq_some_iff.1 hx;refine⟨xs.drop (k+1),?_,by rw[List.take_succ_eq_append_getElem hk,e]⟩;have:xs.take k++x::xs.drop (k+1)=xs:=by
  rw[<- e,<- List.drop_eq_getElem_cons hk];exact List.take_append_drop k xs
 rw[this];exact hg
open Go.RowKit
theorem Zhz {o:Own}{w:World}{sb:Nat}{d:Zag}{V:Nat->BF}(h:Zax o w sb d)(hlt:Zal o w)(hk:Zaq d V)(f:Nat)(hf:okE (Zab d) f)(v:Int) :
 Calls prog 237 #[.pointer (some ⟨sb,0,none⟩),.int .i64 f,.int .i64 v] w fun x w'=>x=.returned (.tuple #[.int .i64 (cofs d f v).1,.int .i64 (cofs d f v).2])/\Below w.heap.size w w':=by
 have HA:=Hd (Zhp h hlt hk f hf);clear h hk hlt hf;unfold atV at HA;unfold cofs;cases hb:Zab d (f/2) with
 | none =>
   rw[hb] at HA;clear hb
   go_enter func237,ntmps237
   go_wp2_with fail;refine HA.out.mono ?_;rintro x w' ⟨rfl,hb⟩;have HB:=Hd hb;clear hb;go_wp2_with fail
   go_ret2
   exact⟨rfl,HB.out⟩
 | some b =>
   rw[hb] at HA;clear hb
   by_cases e:(b.v:Int)=v
   .
    subst e;have HE:Hid ((if (b.v:Int)=b.v then (eflip b.lo (eneg f),eflip b.hi (eneg f)) else (f,f))=(eflip b.lo (eneg f),eflip b.hi (eneg f))):=by show _=_;rw[if_pos rfl]
    go_enter func237,ntmps237
    go_wp2_with fail;refine HA.out.mono ?_;rintro x w' ⟨rfl,hb⟩;have HB:=Hd hb;clear hb;go_wp2_with fail
    go_ret2
    exact⟨by first|rfl|(rw[HE.out];rfl),HB.out⟩
   .
    have HE:Hid ((if (b.v:Int)=v then (eflip b.lo (eneg f),eflip b.hi (eneg f)) else (f,f))=(f,f)):=by show _=_;rw[if_neg e]
    have H1:((b.v:Int) == v)=false:=by simpa using e
    go_enter func237,ntmps237
    go_wp2_with fail;refine HA.out.mono ?_;rintro x w' ⟨rfl,hb⟩;have HB:=Hd hb;clear hb;go_wp2_with fail
    go_ret2
    exact⟨by first|rfl|(rw[HE.out];rfl),HB.out⟩
def Zep (d:Zag)(k:Nat):Zag:={ d with vars:=(d.vars.set k (d.vars.getD (k+1) 0)).set (k+1) (d.vars.getD k 0),level:=(d.level.set (d.vars.getD k 0) (k+1)).set (d.vars.getD (k+1) 0) k }
theorem Zn6:(prog.info? 3).map (fun i=>i.size)=some 1:=by kernel_rfl
theorem Zfu {l:List Nat}{k:Nat}(hk:k<l.length):(l.map nat64)[k]?=some (.int .i64 (l.getD k 0:Nat)):=by
 rw[List.getElem?_map,List.getElem?_eq_getElem hk];simp[nat64,List.getD,hk]
theorem Zlu {o:Own}{w:World}{sb:Nat}{d:Zag}{s:Za7}(h:Zap o w sb d s)(k:Nat)(hk:k+1<d.vars.length)(hl:d.vars.length<=64)(ha:d.vars.getD k 0<d.level.length)(hb:d.vars.getD (k+1) 0<d.level.length) :
 Calls prog 217 #[.pointer (some ⟨s.lb,0,none⟩),.int .i64 k] w fun x w'=>x=.returned (.tuple #[])/\Zap o w' sb (Zep d k) s/\Chg Zar o o w w':=by
 obtain⟨d0,d1,_⟩:=cells2 h.lev;obtain⟨gv,cv,g5,g2,_⟩:=h.vars.shape (by omega);obtain⟨gl,cl,g6,g3,_⟩:=h.level.shape (by omega);have ge:=h.len;have r1:=h.vars;have r2:=h.level;rw[g5] at r1 d0;rw[g6] at r2 d1;have a0:=r1.cell k (by simp;omega);have a1:=r1.cell (k+1) (by simp;omega);rw[Zfu (by omega)] at a0;rw[Zfu hk] at a1;obtain⟨A,hA⟩:∃ A,A=d.vars.getD k 0:=⟨_,rfl⟩;obtain⟨B,hB⟩:∃ B,B=d.vars.getD (k+1) 0:=⟨_,rfl⟩;rw[<- hA] at a0 ha;rw[<- hB] at a1 hb;have b0:=r2.cell A (by simpa using ha);have b1:=r2.cell B (by simpa using hb);rw[Zfu ha] at b0;rw[Zfu hb] at b1;have fv:=r1.frozen;have fl:=r2.frozen;have go:(k:Int)<d.vars.length:=by omega
 have gn:(k:Int)+1<d.vars.length:=by omega
 have nvl:gv≠s.lb:=fun e=>by have:=h.ownl;rw[<- e,g2] at this;cases this
 have nll:gl≠s.lb:=fun e=>by have:=h.ownl;rw[<- e,g3] at this;cases this
 have nvg:gv≠gl:=fun e=>by rw[e,g3] at g2;cases g2
 have nvs:gv≠sb:=fun e=>by have:=h.own;rw[<- e,g2] at this;cases this
 have nls:gl≠sb:=fun e=>by have:=h.own;rw[<- e,g3] at this;cases this
 obtain⟨LA,ga⟩:∃ L,L=d.level.getD A 0:=⟨_,rfl⟩;obtain⟨LB,g9⟩:∃ L,L=d.level.getD B 0:=⟨_,rfl⟩;have gf:Hid (∀ w1 w2:World,w1.heap=w.heap->w1.os=w.os->w1.tape=w.tape->w1.output=w.output->w2=((((w1.setCell ⟨gv,k,none⟩ (.int .i64 B)).setCell ⟨gv,k+1,none⟩ (.int .i64 A)).setCell ⟨gl,A,none⟩ (.int .i64 (k+1:Nat))).setCell ⟨gl,B,none⟩ (.int .i64 k))->Zap o w2 sb (Zep d k) s/\Chg Zar o o w w2):=by
  refine Hd ?_;rintro w1 w2 e1 e2 e3 e4 rfl;have gk:w1.heap.size=w.heap.size:=by rw[e1]
  have gg:Below w.heap.size w w1:=⟨e2,e3,e4,by omega,fun k _=>by rw[e1]⟩;have gh:∀ g,g≠gv->g≠gl->((((w1.setCell ⟨gv,k,none⟩ (.int .i64 B)).setCell ⟨gv,k+1,none⟩ (.int .i64 A)).setCell ⟨gl,A,none⟩ (.int .i64 (k+1:Nat))).setCell ⟨gl,B,none⟩ (.int .i64 k)).heap[g]?=w.heap[g]?:=fun g n1 n2=>by
   rw[Zai n2,Zai n2,Zai n1,Zai n1,e1]
  have k1:∀ {g r},o g=some r->r ≠ .vars->r ≠ .level->((((w1.setCell ⟨gv,k,none⟩ (.int .i64 B)).setCell ⟨gv,k+1,none⟩ (.int .i64 A)).setCell ⟨gl,A,none⟩ (.int .i64 (k+1:Nat))).setCell ⟨gl,B,none⟩ (.int .i64 k)).heap[g]?=w.heap[g]?:=fun hg n1 n2=>gh _ (by rintro rfl;rw[g2] at hg;cases hg;exact n1 rfl) (by rintro rfl;rw[g3] at hg;cases hg;exact n2 rfl)
  have g7:=h.vars.keep (w':=w1) (fun g _=>by rw[e1]) (fun _ h=>h);rw[g5] at g7;have gc:=((((g7.stored k (.int .i64 B)).stored (k+1) (.int .i64 A)).setCell_other (p:=⟨gl,A,none⟩) (by rw[g3];simp) (.int .i64 (k+1:Nat))).setCell_other (p:=⟨gl,B,none⟩) (by rw[g3];simp) (.int .i64 k));have g8:=h.level.keep (w':=w1) (fun g _=>by rw[e1]) (fun _ h=>h);rw[g6] at g8;have gd:=(((g8.setCell_other (p:=⟨gv,k,none⟩) (by rw[g2];simp) (.int .i64 B)).setCell_other (p:=⟨gv,k+1,none⟩) (by rw[g2];simp) (.int .i64 A)).stored A (.int .i64 (k+1:Nat))).stored B (.int .i64 k)
  refine⟨⟨h.own,h.ownl,(k1 h.own (by simp) (by simp)).trans h.blk,(k1 h.ownl (by simp) (by simp)).trans h.lev,?_,?_,h.pool.keep (fun g r hg hr=>k1 hg (by rintro rfl;simp at hr) (by rintro rfl;simp at hr)) (fun _ _ h=>h),h.tabs.keep (fun g hg=>k1 hg (by simp) (by simp)) (fun _ h=>h),
   fun v hv=>(h.tab v hv).keep (fun g r hg hr=>k1 hg (by rintro rfl;simp at hr) (by rintro rfl;simp at hr)) (fun _ _ h=>h),h.counts.keep (fun g hg=>k1 hg (by simp) (by simp)) (fun _ h=>h),by simp[Zep,h.len],by simp[Zep,h.tlen]⟩,?_⟩
  . rw[g5];simp only[Zep,List.length_set,List.map_set,<- hA,<- hB];exact gc
  . rw[g6];simp only[Zep,List.length_set,List.map_set,<- hA,<- hB];exact gd
  . exact((((Chg.of_below gg Zar o).setCell (p:=⟨gv,k,none⟩) g2 (by simp[Zar]) _).setCell (p:=⟨gv,k+1,none⟩) g2 (by simp[Zar]) _).setCell (p:=⟨gl,A,none⟩) g3 (by simp[Zar]) _).setCell (p:=⟨gl,B,none⟩) g3 (by simp[Zar]) _
 rw[<- ga] at b0;rw[<- g9] at b1;have gq:(A:Int)<d.level.length:=by omega
 have gp:(B:Int)<d.level.length:=by omega
 have gr:=Hd r1;have gt:=Hd r2;have gj:IntKind.i64.wrap ((k:Int)+1)=((k+1:Nat):Int):=by rw[IntWalk.i64_in _ (by omega)];rfl
 have gm:((k+1:Nat):Int)<d.vars.length:=by omega
 clear h g5 g6 g2 g3 hA hB ga g9 r1 r2 ge
 go_enter func217,ntmps217
 go_upto_region 0 with fail
 go_quiet (fail)
 go_upto_region 1 with fail;refine Zam (fun W:World=>W.cell? ⟨s.lb,0,none⟩=some (.slice (some ⟨gv,0,none⟩) d.vars.length cv)/\True) true 16 [(0,false),(1,false),(2,false),(3,false),(4,false),(5,false),(6,false),(7,false),(8,false),(9,false),(10,false),(11,false),(12,false),(13,false),(14,true),(15,false),(16,true)] (by kernel_rfl) (by kernel_rfl) ⟨d0,trivial⟩ ?_;simp only[planned,Zcc]
 iterate 14
  refine Zaj rfl ?_;apply Exists.intro;refine⟨fun w' hw=>?_,?_⟩
  . obtain⟨h1,_⟩:=hw;go_simp;rfl
  simp only[Zae]
 refine Zk6 (w':=(w.drewN nq).drew.setCell ⟨gv,k,none⟩ (.int .i64 B)) rfl rfl (Zc3 (w:=(w.drewN nq).drew) Zn6 a0 (fv _) rfl rfl) ⟨Za5 (w:=(w.drewN nq).drew) d0 (.inl nvl),trivial⟩ ?_;simp only[Zae]
 iterate 1
  refine Zaj rfl ?_;apply Exists.intro;refine⟨fun w' hw=>?_,?_⟩
  . obtain⟨h1,_⟩:=hw;go_simp;rfl
  simp only[Zae]
 refine Zck (w':=((w.drewN nq).drew.setCell ⟨gv,k,none⟩ (.int .i64 B)).setCell ⟨gv,k+1,none⟩ (.int .i64 A)) rfl rfl (Zc3 Zn6 (Za5 (w:=(w.drewN nq).drew) a1 (.inr (by omega))) ((World.frozen?_setCell _ _ _ _).trans (fv _)) rfl rfl) ?_;simp only[Zae];obtain⟨w4,g4⟩:∃ w4,w4=((w.drewN nq).drew.setCell ⟨gv,k,none⟩ (.int .i64 B)).setCell ⟨gv,k+1,none⟩ (.int .i64 A):=⟨_,rfl⟩;have e1:w4.cell? ⟨s.lb,1,none⟩=some (.slice (some ⟨gl,0,none⟩) d.level.length cl):=by rw[g4];exact Za5 (Za5 (w:=(w.drewN nq).drew) d1 (.inl nvl)) (.inl nvl)
 have g0:w4.cell? ⟨gl,A,none⟩=some (.int .i64 LA):=by rw[g4];exact Za5 (Za5 (w:=(w.drewN nq).drew) b0 (.inl nvg)) (.inl nvg)
 have g1:w4.cell? ⟨gl,B,none⟩=some (.int .i64 LB):=by rw[g4];exact Za5 (Za5 (w:=(w.drewN nq).drew) b1 (.inl nvg)) (.inl nvg)
 have fl4:∀ j,w4.frozen? ⟨gl,j,none⟩=false:=fun j=>by rw[g4];exact(World.frozen?_setCell _ _ _ _).trans ((World.frozen?_setCell _ _ _ _).trans (fl j))
 have gi:=Hd g4;rw[<- g4];clear g4 a0 a1 b0 b1 d0 d1 fv fl;go_upto_region 2 with fail;refine Zam (fun W:World=>W.cell? ⟨s.lb,1,none⟩=some (.slice (some ⟨gl,0,none⟩) d.level.length cl)/\True) true 16 [(0,false),(1,false),(2,false),(3,false),(4,false),(5,false),(6,false),(7,false),(8,false),(9,false),(10,false),(11,false),(12,false),(13,false),(14,true),(15,false),(16,true)] (by kernel_rfl) (by kernel_rfl) ⟨e1,trivial⟩ ?_;simp only[planned,Zcc]
 iterate 14
  refine Zaj rfl ?_;apply Exists.intro;refine⟨fun w' hw=>?_,?_⟩
  . obtain⟨h1,_⟩:=hw;go_simp;rfl
  simp only[Zae]
 refine Zk6 (w':=w4.drew.setCell ⟨gl,A,none⟩ (.int .i64 (k+1:Nat))) rfl rfl (Zc3 (w:=w4.drew) Zn6 g0 (fl4 _) rfl rfl) ⟨Za5 (w:=w4.drew) e1 (.inl nll),trivial⟩ ?_;simp only[Zae]
 iterate 1
  refine Zaj rfl ?_;apply Exists.intro;refine⟨fun w' hw=>?_,?_⟩
  . obtain⟨h1,_⟩:=hw;go_simp;rfl
  simp only[Zae]
 have g1':∃ u,(w4.drew.setCell ⟨gl,A,none⟩ (.int .i64 (k+1:Nat))).cell? ⟨gl,B,none⟩=some u:=Zbt (w:=w4.drew) g1;obtain⟨u,g1'⟩:=g1';refine Zck (w':=(w4.drew.setCell ⟨gl,A,none⟩ (.int .i64 (k+1:Nat))).setCell ⟨gl,B,none⟩ (.int .i64 k)) rfl rfl (Zc3 Zn6 g1' ((World.frozen?_setCell _ _ _ _).trans (fl4 _)) rfl rfl) ?_;simp only[Zae];go_wp2_with fail;go_end0;obtain⟨q1,q2⟩:=gf.out ((w.drewN nq).drew.drew) ((w4.drew.setCell ⟨gl,A,none⟩ (.int .i64 (k+1:Nat))).setCell ⟨gl,B,none⟩ (.int .i64 k)) rfl rfl rfl rfl (by rw[gi.out];rfl);exact⟨rfl,q1,q2⟩
end Go.Proofs.YtkbegdkpboklpaaGreat

namespace Go.Proofs.YtkbegdkpboklpaaGreat
open Go.Proofs.Tryz
section
variable {n:Nat}{lev:Nat->Nat}{N0:Nat->Option BN}{V0:Nat->BF}{x y:Nat}
def Zfz (lev:Nat->Nat)(x y:Nat):Nat->Nat:=fun v=>if v=x then lev y else if v=y then lev x else lev v
def isV (N:Nat->Option BN)(y e:Nat):Prop:=∃ c,N (e/2)=some c/\c.v=y
def Turns (N:Nat->Option BN)(x y:Nat)(i:Nat):Prop:=∃ b,N i=some b/\b.v=x/\(isV N y b.lo\/isV N y b.hi)
def lowE (n:Nat)(lev:Nat->Nat)(N:Nat->Option BN)(y e:Nat):Prop:=okE N e/\lev y<lvE n lev N e
def midE (n:Nat)(lev:Nat->Nat)(N0 N:Nat->Option BN)(x y e:Nat):Prop:=lowE n lev N0 y e\/∃ c,N (e/2)=some c/\c.v=x/\¬ Turns N0 x y (e/2)
structure Zfp (n:Nat)(lev:Nat->Nat)(N0:Nat->Option BN)(V0:Nat->BF)(x y:Nat)(done:Nat->Prop)(N:Nat->Option BN)(V:Nat->BF):Prop where
 n0:N 0=none
 ext:∀ i,(i=0\/∃ b,N0 i=some b)->V i=V0 i
 keep:∀ i b,N0 i=some b->¬ done i->N i=some b
 fresh:∀ i b,N i=some b->N0 i=none->b.v=x/\lowE n lev N0 y b.lo/\lowE n lev N0 y b.hi/\b.hi%2=0/\b.lo≠b.hi/\V i=iteF x (ef V0 b.hi) (ef V0 b.lo)
 dn:∀ i,done i->Turns N0 x y i/\∃ b,N i=some b/\b.v=y/\midE n lev N0 N x y b.lo/\midE n lev N0 N x y b.hi/\b.hi%2=0/\b.lo≠b.hi/\V0 i=iteF y (ef V b.hi) (ef V b.lo)
 xu:∀ i j b,N i=some b->N j=some b->b.v=x->¬ Turns N0 x y i->¬ Turns N0 x y j->i=j
theorem Zgv {V:Nat->BF}(hext:∀ i,(i=0\/∃ b,N0 i=some b)->V i=V0 i){e:Nat}(h:okE N0 e):ef V e=ef V0 e:=by
 funext ρ;simp only[ef,hext _ h]
theorem Zfp.start (h:Dag n lev N0 V0)(x y:Nat):Zfp n lev N0 V0 x y (fun _=>False) N0 V0 :=
 ⟨h.none0,fun _ _=>rfl,fun _ _ h _=>h,fun i b hb hn=>by (rw[hn] at hb;cases hb),fun _ h=>h.elim,fun i j b hi hj _ _ _=>h.uniq i j b hi hj⟩
variable {done:Nat->Prop}{N:Nat->Option BN}{V:Nat->BF}
theorem Zfp.has (m:Zfp n lev N0 V0 x y done N V){i:Nat}{b:BN}(hb:N0 i=some b):∃ b',N i=some b':=by
 by_cases hd:done i
 . obtain⟨_,b',g0,_⟩:=m.dn i hd;exact⟨b',g0⟩
 . exact⟨b,m.keep i b hb hd⟩
theorem Zfp.add (m:Zfp n lev N0 V0 x y done N V){id:Nat}{b:BN}(hf:N id=none)(hid:id≠0)(hv:b.v=x)
 (hlo:lowE n lev N0 y b.lo) (hhi:lowE n lev N0 y b.hi) (hr:b.hi%2=0) (hne:b.lo≠b.hi) (hnew:∀ i,¬ Turns N0 x y i->N i≠some b) :
 Zfp n lev N0 V0 x y done (addN N id b) (addV V id b):=by
 have g8:N0 id=none:=by
  cases e:N0 id with
  | none=>rfl
  | some c=>obtain⟨b',g6⟩:=m.has e;rw[hf] at g6;cases g6
 have ne0:∀ i,(i=0\/∃ b,N0 i=some b)->i≠id:=by
  rintro i (rfl|⟨c,hc⟩)
  . exact Ne.symm hid
  . rintro rfl;rw[g8] at hc;cases hc
 have cs:∀ i c,addN N id b i=some c->(i=id/\c=b)\/(i≠id/\N i=some c):=by
  intro i c hx
  by_cases e:i=id
  . subst e;rw[Zb4] at hx;exact .inl ⟨rfl,(Option.some.inj hx).symm⟩
  . rw[Zba _ e] at hx;exact .inr ⟨e,hx⟩
 have g3:∀ i,(i=0\/∃ b,N0 i=some b)->addV V id b i=V0 i:=fun i hi=>by
  simp only[addV,if_neg (ne0 i hi)];exact m.ext i hi
 refine⟨by rw[Zba _ (Ne.symm hid)];exact m.n0,g3,?_,?_,?_,?_⟩
 . intro i c hc hd;rw[Zba _ (ne0 i (.inr ⟨c,hc⟩))];exact m.keep i c hc hd
 .
  intro i c hc hn;rcases cs i c hc with ⟨e1,e2⟩|⟨g0,gd⟩
  .
   subst e1;subst e2
   exact⟨hv,hlo,hhi,hr,hne,by simp only[addV,if_true,hv,Zgv m.ext hlo.1,Zgv m.ext hhi.1]⟩
  . obtain⟨h1,h2,h3,h4,h5,h6⟩:=m.fresh i c gd hn;exact⟨h1,h2,h3,h4,h5,by simp only[addV,if_neg g0];exact h6⟩
 .
  intro i hd;obtain⟨hT,c,hc,h1,h2,h3,h4,h5,h6⟩:=m.dn i hd;have g1:∀ e,midE n lev N0 N x y e->midE n lev N0 (addN N id b) x y e/\ef (addV V id b) e=ef V e:=by
   rintro e (hl|⟨d,g4,ga,g9⟩)
   . exact⟨.inl hl,by rw[Zgv g3 hl.1,Zgv m.ext hl.1]⟩
   .
    have g0:e/2≠id:=by rintro e';rw[e',hf] at g4;cases g4
    refine⟨.inr ⟨d,by rw[Zba _ g0];exact g4,ga,g9⟩,?_⟩;funext ρ;simp only[ef,addV,if_neg g0]
  have g7:i≠id:=ne0 i (.inr (by obtain⟨q,hq,_⟩:=hT;exact⟨q,hq⟩));exact⟨hT,c,by rw[Zba _ g7];exact hc,h1,(g1 _ h2).1,(g1 _ h3).1,h4,h5,by rw[(g1 _ h2).2,(g1 _ h3).2];exact h6⟩
 .
  intro i j c hi hj gc ti tj;rcases cs i c hi with ⟨e1,e2⟩|⟨_,g5⟩
  .
   rcases cs j c hj with ⟨e3,_⟩|⟨_,g2⟩
   . rw[e1,e3]
   . subst e2;exact absurd g2 (hnew j tj)
  .
   rcases cs j c hj with ⟨_,e2⟩|⟨_,g2⟩
   . subst e2;exact absurd g5 (hnew i ti)
   . exact m.xu i j c g5 g2 gc ti tj
def setN (N:Nat->Option BN)(i:Nat)(b:BN):Nat->Option BN:=fun j=>if j=i then some b else N j
theorem Zfp.turn (m:Zfp n lev N0 V0 x y done N V)(hxy:x≠y){i lo hi:Nat}(hT:Turns N0 x y i)(hlo:midE n lev N0 N x y lo)(hhi:midE n lev N0 N x y hi)(hr:hi%2=0)(hne:lo≠hi)
 (hV:V0 i=iteF y (ef V hi) (ef V lo)):Zfp n lev N0 V0 x y (fun j=>done j\/j=i) (setN N i ⟨y,lo,hi⟩) V:=by
 obtain⟨b0,g3,gf,ge⟩:=hT;have hT:Turns N0 x y i:=⟨b0,g3,gf,ge⟩;have g9:i≠0:=by
  rintro rfl;obtain⟨b',g4⟩:=m.has g3;rw[m.n0] at g4;cases g4
 have cs:∀ j c,setN N i ⟨y,lo,hi⟩ j=some c->(j=i/\c=⟨y,lo,hi⟩)\/(j≠i/\N j=some c):=by
  intro j c hx
  by_cases e:j=i
  . subst e;simp only[setN,if_true,Option.some.injEq] at hx;exact .inl ⟨rfl,hx.symm⟩
  . simp only[setN,if_neg e] at hx;exact .inr ⟨e,hx⟩
 have g0:∀ e,midE n lev N0 N x y e->midE n lev N0 (setN N i ⟨y,lo,hi⟩) x y e:=by
  rintro e (hl|⟨d,gc,ga,g1⟩)
  . exact .inl hl
  .
   have g5:e/2≠i:=by rintro e';rw[e'] at g1;exact g1 hT
   exact .inr ⟨d,by simp only[setN,if_neg g5];exact gc,ga,g1⟩
 refine⟨by simp only[setN,if_neg (Ne.symm g9)];exact m.n0,m.ext,?_,?_,?_,?_⟩
 .
  intro j c hc hd;have g7:j≠i:=fun e=>hd (.inr e)
  simp only[setN,if_neg g7];exact m.keep j c hc (fun h=>hd (.inl h))
 .
  intro j c hc hn;rcases cs j c hc with ⟨e1,_⟩|⟨_,gd⟩
  . subst e1;rw[g3] at hn;cases hn
  . exact m.fresh j c gd hn
 .
  intro j hd
  by_cases e:j=i
  . subst e;exact⟨hT,⟨y,lo,hi⟩,by simp only[setN,if_true],rfl,g0 _ hlo,g0 _ hhi,hr,hne,hV⟩
  . obtain⟨gg,c,hc,h1,h2,h3,h4,h5,h6⟩:=m.dn j (hd.resolve_right e);exact⟨gg,c,by simp only[setN,if_neg e];exact hc,h1,g0 _ h2,g0 _ h3,h4,h5,h6⟩
 .
  intro j k c hj hk g2 tj tk;rcases cs j c hj with ⟨e1,e2⟩|⟨_,g8⟩
  . subst e2;exact absurd g2.symm hxy
  .
   rcases cs k c hk with ⟨e1,e2⟩|⟨_,g6⟩
   . subst e2;exact absurd g2.symm hxy
   . exact m.xu j k c g8 g6 g2 tj tk
theorem Zid (lev:Nat->Nat)(x y:Nat):Zfz lev x y x=lev y:=by simp[Zfz]
theorem Zie (lev:Nat->Nat){x y:Nat}(h:x≠y):Zfz lev x y y=lev x:=by simp[Zfz,Ne.symm h]
theorem Zlm (lev:Nat->Nat){x y v:Nat}(hx:v≠x)(hy:v≠y):Zfz lev x y v=lev v:=by simp[Zfz,hx,hy]
theorem Zv8 {e:Nat}(hxl:lev x<lev y)(hl:lowE n lev N0 y e){c:BN}(hc:N0 (e/2)=some c):c.v≠x/\c.v≠y:=by
 have:=hl.2;simp only[lvE,hc] at this;exact⟨by rintro e;rw[e] at this;omega,by rintro e;rw[e] at this;omega⟩
theorem Zfp.final (h:Dag n lev N0 V0)(hx:x<n)(hy:y<n)(hl:lev y=lev x+1)(m:Zfp n lev N0 V0 x y done N V)(hall:∀ i,Turns N0 x y i->done i):Dag n (Zfz lev x y) N V:=by
 have g5:x≠y:=by rintro rfl;omega
 have gk:lev x<lev y:=by omega
 have kinds:∀ i b,N i=some b->(N0 i=none/\b.v=x/\lowE n lev N0 y b.lo/\lowE n lev N0 y b.hi/\b.hi%2=0/\b.lo≠b.hi/\V i=iteF x (ef V0 b.hi) (ef V0 b.lo)) \/
  (Turns N0 x y i/\b.v=y/\midE n lev N0 N x y b.lo/\midE n lev N0 N x y b.hi/\b.hi%2=0/\b.lo≠b.hi/\V0 i=iteF y (ef V b.hi) (ef V b.lo)) \/
  (N0 i=some b/\¬ Turns N0 x y i):=by
  intro i b hb;cases e:N0 i with
  | none=>exact .inl ⟨rfl,m.fresh i b hb e⟩
  | some c =>
    right
    by_cases hd:done i
    . obtain⟨hT,b',g4,rest⟩:=m.dn i hd;obtain rfl:b'=b:=Option.some.inj (g4.symm.trans hb);exact .inl ⟨hT,rest⟩
    . have:=m.keep i c e hd;obtain rfl:c=b:=Option.some.inj (this.symm.trans hb);exact .inr ⟨rfl,fun hT=>hd (hall i hT)⟩
 have low:∀ e,lowE n lev N0 y e->okE N e/\lvE n (Zfz lev x y) N e=lvE n lev N0 e/\ef V e=ef V0 e:=by
  intro e he;refine⟨?_,?_,Zgv m.ext he.1⟩
  .
   rcases he.1 with h0|⟨c,hc⟩
   . exact .inl h0
   . obtain⟨b',g4⟩:=m.has hc;exact .inr ⟨b',g4⟩
  .
   rcases he.1 with h0|⟨c,hc⟩
   . simp only[lvE,h0,m.n0,h.none0]
   .
    have gf:=Zv8 gk he hc;have gj:¬ done (e/2):=fun hd=>by
     obtain⟨⟨q,hq,gc,_⟩,_⟩:=m.dn _ hd;rw[hc] at hq;cases hq;exact gf.1 gc
    simp only[lvE,m.keep _ _ hc gj,hc,Zlm lev gf.1 gf.2]
 have mid:∀ e,midE n lev N0 N x y e->okE N e/\lev x<lvE n (Zfz lev x y) N e:=by
  rintro e (he|⟨c,hc,g9,_⟩)
  . obtain⟨h1,h2,_⟩:=low e he;exact⟨h1,by rw[h2];have:=he.2;omega⟩
  . exact⟨.inr ⟨c,hc⟩,by simp only[lvE,hc,g9,Zid];omega⟩
 have old:∀ i b e,N0 i=some b->¬ Turns N0 x y i->(e=b.lo\/e=b.hi)->okE N e/\Zfz lev x y b.v<lvE n (Zfz lev x y) N e/\ef V e=ef V0 e:=by
  intro i b e hb g0 he;have ho:okE N0 e:=by rcases he with rfl|rfl;exact h.okLo _ _ hb;exact h.okHi _ _ hb
  have g1:lev b.v<lvE n lev N0 e:=by rcases he with rfl|rfl;exact h.lvLo _ _ hb;exact h.lvHi _ _ hb
  have gi:b.v=x->¬ isV N0 y e:=fun g8 gh=>g0 ⟨b,hb,g8,by rcases he with rfl|rfl;exact .inl gh;exact .inr gh⟩
  refine⟨?_,?_,Zgv m.ext ho⟩
  .
   rcases ho with h0|⟨c,hc⟩
   . exact .inl h0
   . obtain⟨b',g4⟩:=m.has hc;exact .inr ⟨b',g4⟩
  .
   by_cases g8:b.v=x
   .
    have g7:lowE n lev N0 y e:=by
     refine⟨ho,?_⟩;rw[g8] at g1;rcases ho with h0|⟨c,hc⟩
     . simp only[lvE,h0,h.none0] at g1 ⊢;exact h.lt y hy
     .
      simp only[lvE,hc] at g1 ⊢;have:c.v≠y:=fun e'=>gi g8 ⟨c,hc,e'⟩
      have h2:lev c.v≠lev y:=fun e'=>this (h.inj _ _ (h.var _ _ hc) hy e')
      omega
    rw[(low e g7).2.1,g8,Zid];exact g7.2
   .
    by_cases gg:b.v=y
    . have g7:lowE n lev N0 y e:=⟨ho,by rw[gg] at g1;exact g1⟩;rw[(low e g7).2.1,gg,Zie lev g5];have:=g7.2;omega
    .
     rw[Zlm lev g8 gg];rcases ho with h0|⟨c,hc⟩
     . simp only[lvE,h0,m.n0];exact h.lt _ (h.var _ _ hb)
     .
      simp only[lvE,hc] at g1;have gl:=h.var _ _ hc
      by_cases hd:done (e/2)
      .
       obtain⟨⟨q,hq,gc,_⟩,b',g4,hb'y,_⟩:=m.dn _ hd;rw[hc] at hq;cases hq
       simp only[lvE,g4,hb'y,Zie lev g5];rw[gc] at g1;exact g1
      .
       simp only[lvE,m.keep _ _ hc hd]
       by_cases g9:c.v=x
       . rw[g9,Zid];rw[g9] at g1;omega
       .
        by_cases ge:c.v=y
        .
         rw[ge,Zie lev g5];rw[ge] at g1;have h2:lev b.v≠lev x:=fun e'=>g8 (h.inj _ _ (h.var _ _ hb) hx e')
         omega
        . rw[Zlm lev g9 ge];exact g1
 refine⟨fun ρ=>by rw[m.ext 0 (.inl rfl)];exact h.one ρ,m.n0,?_,?_,?_,?_,?_,?_,?_,?_,?_,?_,?_⟩
 .
  intro i b hb;rcases kinds i b hb with ⟨_,hv,_⟩|⟨_,hv,_⟩|⟨h0,_⟩
  . rw[hv];exact hx
  . rw[hv];exact hy
  . exact h.var _ _ h0
 .
  intro u v hu hv he;have hs:∀ u,u<n->Zfz lev x y u=lev (if u=x then y else if u=y then x else u):=by
   intro u _;simp only[Zfz];(split;· rfl);split<;>rfl
  have hb:∀ u,u<n->(if u=x then y else if u=y then x else u)<n:=by
   intro u hu;(split;· exact hy);(split;· exact hx);exact hu
  rw[hs u hu,hs v hv] at he;have:=h.inj _ _ (hb u hu) (hb v hv) he
  by_cases a:u=x
  .
   rw[if_pos a] at this
   by_cases b:v=x
   . rw[a,b]
   .
    rw[if_neg b] at this
    by_cases c:v=y
    . rw[if_pos c] at this;exact absurd this.symm g5
    . rw[if_neg c] at this;exact absurd this.symm c
  .
   rw[if_neg a] at this
   by_cases b:v=x
   .
    rw[if_pos b] at this
    by_cases c:u=y
    . rw[if_pos c] at this;exact absurd this g5
    . rw[if_neg c] at this;exact absurd this c
   .
    rw[if_neg b] at this
    by_cases c:u=y
    .
     rw[if_pos c] at this
     by_cases d:v=y
     . rw[c,d]
     . rw[if_neg d] at this;exact absurd this.symm b
    .
     rw[if_neg c] at this
     by_cases d:v=y
     . rw[if_pos d] at this;exact absurd this a
     . rw[if_neg d] at this;exact this
 .
  intro v hv;simp only[Zfz];split
  . exact h.lt y hy
  .
   split
   . exact h.lt x hx
   . exact h.lt v hv
 .
  intro i b hb;rcases kinds i b hb with ⟨_,_,g2,_⟩|⟨_,_,g2,_⟩|⟨h0,g0⟩
  . exact(low _ g2).1
  . exact(mid _ g2).1
  . exact(old i b b.lo h0 g0 (.inl rfl)).1
 .
  intro i b hb;rcases kinds i b hb with ⟨_,_,_,g3,_⟩|⟨_,_,_,g3,_⟩|⟨h0,g0⟩
  . exact(low _ g3).1
  . exact(mid _ g3).1
  . exact(old i b b.hi h0 g0 (.inr rfl)).1
 .
  intro i b hb;rcases kinds i b hb with ⟨_,hv,g2,_⟩|⟨_,hv,g2,_⟩|⟨h0,g0⟩
  . rw[hv,Zid,(low _ g2).2.1];exact g2.2
  . rw[hv,Zie lev g5];exact(mid _ g2).2
  . exact(old i b b.lo h0 g0 (.inl rfl)).2.1
 .
  intro i b hb;rcases kinds i b hb with ⟨_,hv,_,g3,_⟩|⟨_,hv,_,g3,_⟩|⟨h0,g0⟩
  . rw[hv,Zid,(low _ g3).2.1];exact g3.2
  . rw[hv,Zie lev g5];exact(mid _ g3).2
  . exact(old i b b.hi h0 g0 (.inr rfl)).2.1
 .
  intro i b hb;rcases kinds i b hb with ⟨_,_,_,_,hr,_⟩|⟨_,_,_,_,hr,_⟩|⟨h0,_⟩
  . exact hr
  . exact hr
  . exact h.reg _ _ h0
 .
  intro i b hb;rcases kinds i b hb with ⟨_,_,_,_,_,gd,_⟩|⟨_,_,_,_,_,gd,_⟩|⟨h0,_⟩
  . exact gd
  . exact gd
  . exact h.ne _ _ h0
 .
  intro i j b hi hj;have yFn:∀ i,N i=some b->b.v=y->(∃ c,N0 i=some c)/\V0 i=iteF y (ef V b.hi) (ef V b.lo):=by
   intro i hi hv;rcases kinds i b hi with ⟨_,g6,_⟩|⟨⟨q,hq,_⟩,_,_,_,_,_,hV⟩|⟨h0,g0⟩
   . rw[hv] at g6;exact absurd g6.symm g5
   . exact⟨⟨q,hq⟩,hV⟩
   . refine⟨⟨b,h0⟩,?_⟩;rw[(old i b b.lo h0 g0 (.inl rfl)).2.2,(old i b b.hi h0 g0 (.inr rfl)).2.2,<- hv];exact h.eqn _ _ h0
  have xT:b.v=x->∀ i,N i=some b->¬ Turns N0 x y i:=by
   intro hv i hi hT;obtain⟨_,b',g4,hb'y,_⟩:=m.dn i (hall i hT);rw[hi] at g4;cases g4
   rw[hv] at hb'y;exact g5 hb'y
  by_cases g6:b.v=x
  . exact m.xu i j b hi hj g6 (xT g6 i hi) (xT g6 j hj)
  .
   by_cases ga:b.v=y
   .
    obtain⟨⟨c,hc⟩,e1⟩:=yFn i hi ga;obtain⟨⟨d,hd⟩,e2⟩:=yFn j hj ga;have:2*i=2*j:=by
     refine h.canon (Zg4 hc) (Zg4 hd) ?_;funext ρ;have h1:2*i/2=i:=by omega
     have h2:2*j/2=j:=by omega
     have h3:2*i%2=0:=by omega
     have h4:2*j%2=0:=by omega
     simp only[ef,h1,h2,h3,h4,e1,e2]
    omega
   .
    have o:∀ i,N i=some b->N0 i=some b:=by
     intro i hi;rcases kinds i b hi with ⟨_,hv,_⟩|⟨_,hv,_⟩|⟨h0,_⟩
     . exact absurd hv g6
     . exact absurd hv ga
     . exact h0
    exact h.uniq i j b (o i hi) (o j hj)
 .
  intro i b hb;rcases kinds i b hb with ⟨_,hv,g2,g3,_,_,hV⟩|⟨hT,hv,_,_,_,_,hV⟩|⟨h0,g0⟩
  . rw[hV,hv,(low _ g2).2.2,(low _ g3).2.2]
  . obtain⟨q,hq,_⟩:=hT;rw[m.ext i (.inr ⟨q,hq⟩),hV,hv]
  . rw[m.ext i (.inr ⟨b,h0⟩),(old i b b.lo h0 g0 (.inl rfl)).2.2,(old i b b.hi h0 g0 (.inr rfl)).2.2];exact h.eqn _ _ h0
end
end Go.Proofs.YtkbegdkpboklpaaGreat

namespace Go.Proofs.YtkbegdkpboklpaaGreat
open Go.Proofs.Tryz
open Go.RowKit Go.Shelf
structure TN where
 n:RN
 ll:Nat
 lh:Nat
 hl:Nat
 hh:Nat
def tnV (t:TN):List Value:=rnV t.n++[.int .i64 t.ll,.int .i64 t.lh,.int .i64 t.hl,.int .i64 t.hh]
def tnOf (d:Zag)(y:Nat)(i:Nat):TN:=⟨d.pool.nd i,(cofs d (d.pool.nd i).lo y).1,(cofs d (d.pool.nd i).lo y).2,(cofs d (d.pool.nd i).hi y).1,(cofs d (d.pool.nd i).hi y).2⟩
def Zfg (d:Zag)(y:Nat)(i:Nat):Bool:=decide ((tnOf d y i).ll≠(tnOf d y i).lh\/(tnOf d y i).hl≠(tnOf d y i).hh)
theorem Zva {d:Zag}{V:Nat->BF}(hk:Zaq d V)(e y:Nat):(cofs d e y).1≠(cofs d e y).2↔isV (Zab d) y e:=by
 unfold cofs isV;cases hb:Zab d (e/2) with
 | none=>simp
 | some b =>
   by_cases h:b.v=y
   .
    have h1:(b.v:Int)=(y:Int):=by omega
    simp only[h1,if_true];constructor
    . intro _;exact⟨b,rfl,h⟩
    . intro _;exact Zj6 (hk.dag.ne _ _ hb)
   .
    have h1:¬ (b.v:Int)=(y:Int):=by omega
    simp only[h1,if_false];constructor
    . intro hh;exact(hh rfl).elim
    . rintro⟨c,hc,hv⟩;cases hc;exact(h hv).elim
theorem Zjh {d:Zag}{V:Nat->BF}(hk:Zaq d V){x y i:Nat}{b:BN}(hb:Zab d i=some b)(hx:b.v=x):Zfg d y i=true↔Turns (Zab d) x y i:=by
 obtain⟨_,_,he⟩:=Za9 hb;have g0:bnOf (d.pool.nd i)=b:=by rw[<- (Za9 hb).2.1];exact he
 have e1:(d.pool.nd i).lo=b.lo:=by rw[<- g0];rfl
 have e2:(d.pool.nd i).hi=b.hi:=by rw[<- g0];rfl
 unfold Zfg tnOf;rw[decide_eq_true_eq,e1,e2,Zva hk,Zva hk];constructor
 . intro h;exact⟨b,hb,hx,h⟩
 . rintro⟨c,hc,_,h⟩;rw[hb] at hc;cases hc;exact h
open Go.RowKit
noncomputable def rkSw (n:Nat)(lev:Nat->Nat)(N0:Nat->Option BN)(x y:Nat)(N:Nat->Option BN)(i:Nat):Nat :=
 open Classical in if Turns N0 x y i then 2 * (n - lev x) else match N i with
  | none=>0
  | some b=>if b.v=x then 2*(n-lev x)-1 else 2*(n-lev b.v)
section
variable {n:Nat}{lev:Nat->Nat}{N0:Nat->Option BN}{V0:Nat->BF}{x y:Nat}{done:Nat->Prop}{N:Nat->Option BN}{V:Nat->BF}
theorem Ziw {i:Nat}(h:Turns N0 x y i):rkSw n lev N0 x y N i=2*(n-lev x):=by unfold rkSw;rw[if_pos h]
theorem Zqc {i:Nat}{b:BN}(h:¬ Turns N0 x y i)(hb:N i=some b)(hx:b.v=x):rkSw n lev N0 x y N i=2*(n-lev x)-1:=by unfold rkSw;rw[if_neg h,hb];simp[hx]
theorem Zzl {i:Nat}{b:BN}(h:¬ Turns N0 x y i)(hb:N i=some b)(hx:b.v≠x):rkSw n lev N0 x y N i=2*(n-lev b.v):=by unfold rkSw;rw[if_neg h,hb];simp[hx]
theorem Zro {i:Nat}{b:BN}(hb:N0 i=some b)(h:Turns N0 x y i):b.v=x:=by
 obtain⟨c,hc,hx,_⟩:=h;rw[hb] at hc;cases hc;exact hx
theorem Zwy (m:Zfp n lev N0 V0 x y done N V){e:Nat}{c0 c:BN}(h0:N0 (e/2)=some c0)(hc:N (e/2)=some c) :
 (Turns N0 x y (e/2)/\c0.v=x/\rkSw n lev N0 x y N (e/2)=2*(n-lev x))\/(¬ Turns N0 x y (e/2)/\c=c0/\rkSw n lev N0 x y N (e/2)<=2*(n-lev c0.v)/\(c0.v=x->rkSw n lev N0 x y N (e/2)=2*(n-lev x)-1)):=by
 by_cases hT:Turns N0 x y (e/2)
 . exact .inl ⟨hT,Zro h0 hT,Ziw hT⟩
 .
  have hk:=m.keep _ _ h0 (fun hd=>hT (m.dn _ hd).1);rw[hc] at hk;cases hk;refine .inr ⟨hT,rfl,?_,fun hx=>Zqc hT hc hx⟩
  by_cases hx:c0.v=x
  . rw[Zqc hT hc hx,hx];omega
  . rw[Zzl hT hc hx];exact Nat.le_refl _
theorem Zja (m:Zfp n lev N0 V0 x y done N V){e:Nat}(h:okE N0 e):okE N e:=by
 rcases h with h|⟨c,hc⟩
 . exact .inl h
 . obtain⟨b,hb⟩:=m.has hc;exact .inr ⟨b,hb⟩
theorem Zsa (m:Zfp n lev N0 V0 x y done N V){e:Nat}(h:midE n lev N0 N x y e):okE N e:=by
 rcases h with h|⟨c,hc,_⟩
 . exact Zja m h.1
 . exact .inr ⟨c,hc⟩
theorem Zpk {e:Nat}{c:BN}(h:N0 (e/2)=some c):lvE n lev N0 e=lev c.v:=by unfold lvE;rw[h]
theorem Zzm (h:Dag n lev N0 V0)(hx:x<n)(hl:lev y=lev x+1)(m:Zfp n lev N0 V0 x y done N V){e:Nat}{c:BN}(he:lowE n lev N0 y e)(hc:N (e/2)=some c):rkSw n lev N0 x y N (e/2)+3<=2*(n-lev x):=by
 have g1:=h.lt x hx;rcases he.1 with h0|⟨c0,g0⟩
 . rw[h0,m.n0] at hc;cases hc
 .
  have h1:=he.2;rw[Zpk g0] at h1;have h2:=h.lt _ (h.var _ _ g0);rcases Zwy m g0 hc with ⟨_,hv,_⟩|⟨_,_,h3,_⟩
  . rw[hv] at h1;omega
  . omega
theorem Zzn (h:Dag n lev N0 V0)(hx:x<n)(hl:lev y=lev x+1)(m:Zfp n lev N0 V0 x y done N V){e:Nat}{c:BN}(he:midE n lev N0 N x y e)(hc:N (e/2)=some c):rkSw n lev N0 x y N (e/2)+1<=2*(n-lev x):=by
 have g1:=h.lt x hx;rcases he with he|⟨c',g0,hv,hT⟩
 . have:=Zzm h hx hl m he hc;omega
 . rw[Zqc hT g0 hv];omega
theorem Yau (h:Dag n lev N0 V0)(hx:x<n)(hl:lev y=lev x+1)(m:Zfp n lev N0 V0 x y done N V):Acy N (rkSw n lev N0 x y N):=by
 have g6:=h.lt x hx;have edge:∀ i b e,N i=some b->(e=b.lo\/e=b.hi)->okE N e/\∀ c,N (e/2)=some c->rkSw n lev N0 x y N (e/2)<rkSw n lev N0 x y N i:=by
  intro i b e hb he;cases h0:N0 i with
  | none =>
    obtain⟨hv,h1,h2,_⟩:=m.fresh i b hb h0;have g2:lowE n lev N0 y e:=by rcases he with rfl|rfl;exact h1;exact h2
    have hT:¬ Turns N0 x y i:=fun⟨q,hq,_⟩=>by rw[h0] at hq;cases hq
    refine⟨Zja m g2.1,fun c hc=>?_⟩;have:=Zzm h hx hl m g2 hc;rw[Zqc hT hb hv];omega
  | some b0 =>
    by_cases hd:done i
    .
     obtain⟨hT,b',g4,_,h1,h2,_⟩:=m.dn i hd;rw[hb] at g4;cases g4
     have hm:midE n lev N0 N x y e:=by rcases he with rfl|rfl;exact h1;exact h2
     refine⟨Zsa m hm,fun c hc=>?_⟩;have:=Zzn h hx hl m hm hc;rw[Ziw hT];omega
    .
     have hk:=m.keep i b0 h0 hd;rw[hb] at hk;cases hk
     have ho:okE N0 e:=by rcases he with rfl|rfl;exact h.okLo _ _ h0;exact h.okHi _ _ h0
     have g0:lev b.v<lvE n lev N0 e:=by rcases he with rfl|rfl;exact h.lvLo _ _ h0;exact h.lvHi _ _ h0
     refine⟨Zja m ho,fun c hc=>?_⟩;have g9:=h.lt _ (h.var _ _ h0);rcases ho with hz|⟨c0,g3⟩
     . rw[hz,m.n0] at hc;cases hc
     .
      rw[Zpk g3] at g0;have g8:=h.lt _ (h.var _ _ g3);have hi:(Turns N0 x y i/\rkSw n lev N0 x y N i=2*(n-lev x)/\b.v=x)\/(¬ Turns N0 x y i/\b.v=x/\rkSw n lev N0 x y N i=2*(n-lev x)-1)\/(¬ Turns N0 x y i/\b.v≠x/\rkSw n lev N0 x y N i=2*(n-lev b.v)):=by
       by_cases hT:Turns N0 x y i
       . exact .inl ⟨hT,Ziw hT,Zro h0 hT⟩
       .
        by_cases g1:b.v=x
        . exact .inr (.inl ⟨hT,g1,Zqc hT hb g1⟩)
        . exact .inr (.inr ⟨hT,g1,Zzl hT hb g1⟩)
      rcases Zwy m g3 hc with ⟨_,g5,hr⟩|⟨_,_,hr,g7⟩
      .
       rw[hr];rw[g5] at g0;rcases hi with ⟨_,_,hv⟩|⟨_,hv,_⟩|⟨_,_,h2⟩
       . rw[hv] at g0;omega
       . rw[hv] at g0;omega
       . rw[h2];omega
      .
       rcases hi with ⟨_,h2,hv⟩|⟨_,hv,h2⟩|⟨_,hv,h2⟩
       . rw[h2];rw[hv] at g0;omega
       . rw[h2];rw[hv] at g0;omega
       . rw[h2];omega
 exact⟨m.n0,fun i b hb=>(edge i b _ hb (.inl rfl)).1,fun i b hb=>(edge i b _ hb (.inr rfl)).1,fun i b c hb hc=>(edge i b _ hb (.inl rfl)).2 c hc,fun i b c hb hc=>(edge i b _ hb (.inr rfl)).2 c hc⟩
end
open Go.RowKit
theorem Zs5 {α:Type}[DecidableEq α]{l:List α}(hn:l.Nodup){κ:α}(hk:κ∈l){p q:α->Bool}(hp:p κ=false)(hq:∀ a,q a=(p a||decide (a=κ))):(l.filter q).length=(l.filter p).length+1:=by
 induction l with
 | nil=>cases hk
 | cons a l ih =>
   rw[List.nodup_cons] at hn;have g0:=hq a
   by_cases e:a=κ
   .
    subst e;have g2:∀ b∈l,b≠a:=fun b hb e=>hn.1 (e ▸ hb)
    have hl:l.filter q=l.filter p:=List.filter_congr fun b hb=>by rw[hq b];simp[g2 b hb]
    simp only[List.filter_cons,g0,hp,hl];simp
   .
    have g3:κ∈l:=by
     rcases List.mem_cons.1 hk with h|h
     . exact(e h.symm).elim
     . exact h
    have:=ih hn.2 g3;have g1:q a=p a:=by rw[g0];simp[e]
    simp only[List.filter_cons,g1];split
    . simp[this]
    . exact this
structure Zb0 (d0:Zag)(V0:Nat->BF)(k x y:Nat)(Wt:List (Nat×Nat))(E:Nat->Int)(done:Nat->Prop)(d:Zag)(V:Nat->BF):Prop where
 mid:Zfp d0.vars.length (levN d0) (Zab d0) V0 x y done (Zab d) V
 vars:d.vars=(Zep d0 k).vars
 level:d.level=(Zep d0 k).level
 room:d.pool.room=d0.pool.room
 ext:Za0 d=Za0 d0
 live:Zci d E
 tabO:∀ v,v<d0.vars.length->v≠x->∀ lo hi id,d.tab v (lo,hi)=some id↔Zab d id=some ⟨v,lo,hi⟩
 tabX:∀ lo hi id,d.tab x (lo,hi)=some id↔Zab d id=some ⟨x,lo,hi⟩/\¬ Turns (Zab d0) x y id
 clen:d.counts.length<=1048578
 pos:∀ i,Turns (Zab d0) x y i->0<Zaz d i
 many:d.pool.many=d0.pool.many+(Wt.filter fun κ=>(d.tab x κ).isSome).length
section
variable {d0 d d':Zag}{V0 V:Nat->BF}{k x y:Nat}{Wt:List (Nat×Nat)}{E:Nat->Int}{done:Nat->Prop}
theorem Zb0.has0 (m:Zb0 d0 V0 k x y Wt E done d V){i:Nat}(h:Zab d i=none):Zab d0 i=none:=by
 cases e:Zab d0 i with
 | none=>rfl
 | some c=>obtain⟨b',g0⟩:=m.mid.has e;rw[h] at g0;cases g0
theorem Zb0.add {id lo hi:Nat}(m:Zb0 d0 V0 k x y Wt (Za0 d0) done d V)(r:Zkh d d' id x lo hi)(hlo:lowE d0.vars.length (levN d0) (Zab d0) y lo)(hhi:lowE d0.vars.length (levN d0) (Zab d0) y hi)(hr:hi%2=0)(hne:lo≠hi)
 (ht:d.tab x (lo,hi)=none) (hW:(lo,hi)∈Wt) (hWn:Wt.Nodup):Zb0 d0 V0 k x y Wt (Za0 d0) done d' (addV V id ⟨x,lo,hi⟩):=by
 have hid:id≠0:=by have:=r.pos;omega
 have g2:∀ i,¬ Turns (Zab d0) x y i->Zab d i≠some ⟨x,lo,hi⟩:=fun i hT e=>by rw[(m.tabX lo hi i).2 ⟨e,hT⟩] at ht;cases ht
 have g6:=m.mid.add r.none hid rfl hlo hhi hr hne g2;have h0:=m.has0 r.none;have g4:¬ Turns (Zab d0) x y id:=fun⟨q,hq,_⟩=>by rw[h0] at hq;cases hq
 have g3:Za0 d'=Za0 d0:=by
  rw[r.ext];funext i
  by_cases e:i=id
  . subst e;simp[Zes h0]
  . simp only[if_neg e,m.ext]
 have g0:=r.live;rw[g3] at g0;refine⟨by rw[r.nodes];exact g6,r.vars.trans m.vars,r.level.trans m.level,r.room.trans m.room,g3,g0,fun v hv g1 lo' g5 i=>?_,fun lo' g5 i=>?_,r.clen,fun i hT=>?_,?_⟩
 .
  rw[r.tab,r.nodes];dsimp only;rw[if_neg g1,m.tabO v hv g1]
  by_cases e4:i=id
  .
   subst e4;rw[Zb4,r.none];constructor
   . intro e5;cases e5
   . intro e5;cases e5;exact absurd rfl g1
  . rw[Zba _ e4]
 .
  rw[r.tab,r.nodes];dsimp only;rw[if_pos rfl];unfold putF
  by_cases e2:(lo',g5)=(lo,hi)
  .
   cases e2;rw[if_pos rfl];constructor
   . intro e3;cases e3;rw[Zb4];exact⟨rfl,g4⟩
   .
    rintro⟨e3,e5⟩
    by_cases e4:i=id
    . rw[e4]
    . rw[Zba _ e4] at e3;exact absurd e3 (g2 i e5)
  .
   rw[if_neg e2,m.tabX]
   by_cases e4:i=id
   .
    subst e4;rw[Zb4,r.none];constructor
    . rintro⟨e5,_⟩;cases e5
    . rintro⟨e5,_⟩;cases e5;exact absurd rfl e2
   . rw[Zba _ e4]
 . rw[r.cnt];unfold setC;rw[if_neg (fun e=>g4 (by rw[<- e];exact hT))];exact m.pos i hT
 .
  rw[r.many,m.many];have e1:(Wt.filter fun κ=>(d'.tab x κ).isSome).length=(Wt.filter fun κ=>(d.tab x κ).isSome).length+1:=by
   refine Zs5 hWn hW (by rw[ht];rfl) fun κ=>?_
   rw[r.tab];dsimp only;rw[if_pos rfl];unfold putF
   by_cases e:κ=(lo,hi)
   . simp[e]
   . simp[e]
  rw[e1];omega
theorem Zb0.counts {E':Nat->Int}{cs:List Nat}{dd mm:Nat}(m:Zb0 d0 V0 k x y Wt E done d V)(hl:Zci (d.cd cs dd) E')(hlen:cs.length=d.counts.length)(hsame:∀ i,mm<=rkSw d0.vars.length (levN d0) (Zab d0) x y (Zab d) i->cs.getD i 0=d.counts.getD i 0)(hm:mm<=2*(d0.vars.length-levN d0 x)) :
 Zb0 d0 V0 k x y Wt E' done (d.cd cs dd) V :=
 ⟨m.mid,m.vars,m.level,m.room,m.ext,hl,m.tabO,m.tabX,by show cs.length<=_;rw[hlen];exact m.clen,fun i hT=>by
  have:=hsame i (by rw[Ziw hT];exact hm)
  show 0<cs.getD i 0
  rw[this];exact m.pos i hT,m.many⟩
theorem Zb0.fresh_y (m:Zb0 d0 V0 k x y Wt E done d V)(hk:Dag d0.vars.length (levN d0) (Zab d0) V0)(hxy:x≠y)(hy:y<d0.vars.length){i lo hi:Nat}(hT:Turns (Zab d0) x y i)(hd:¬ done i)(hV:V0 i=iteF y (ef V hi) (ef V lo)):d.tab y (lo,hi)=none:=by
 cases e:d.tab y (lo,hi) with
 | none=>rfl
 | some j =>
   exfalso;have hj:=(m.tabO y hy (Ne.symm hxy) lo hi j).1 e;obtain⟨b,hb,g3,g6⟩:=hT;have same:∀ j',(∃ c,Zab d0 j'=some c)->V0 j'=V0 i->j'=i:=by
    rintro j' ⟨c,hc⟩ g4;have:=hk.canon (Zg4 hc) (Zg4 hb) (by funext ρ;simp only[ef];rw[show 2*j'/2=j' by omega,show 2*i/2=i by omega,g4,show 2*j'%2=0 by omega,show 2*i%2=0 by omega]);omega
   by_cases g0:done j
   . obtain⟨⟨q,hq,g5,_⟩,c,hc,_,_,_,_,_,g1⟩:=m.mid.dn j g0;rw[hj] at hc;cases hc;have:=same j ⟨q,hq⟩ (g1.trans hV.symm);rw[this] at g0;exact hd g0
   .
    cases h0:Zab d0 j with
    | none =>
      have:=(m.mid.fresh j _ hj h0).1;exact hxy this.symm
    | some c =>
      have g2:=m.mid.keep j c h0 g0;rw[hj] at g2;cases g2;have g1:V0 j=iteF y (ef V0 hi) (ef V0 lo):=hk.eqn _ _ h0;have e1:=Zgv m.mid.ext (hk.okLo _ _ h0);have e2:=Zgv m.mid.ext (hk.okHi _ _ h0);dsimp only at e1 e2;rw[<- e1,<- e2] at g1;have:=same j ⟨_,h0⟩ (g1.trans hV.symm);subst this;rw[hb] at h0;cases h0;exact hxy g3.symm
end
open Go.RowKit
theorem Zry {V:Nat->BF}{id v lo hi:Nat}(h:V id=iteF v (ef V (eflip hi (eneg hi))) (ef V (eflip lo (eneg hi)))):ef V (eflip (2*id) (eneg hi))=iteF v (ef V hi) (ef V lo):=by
 funext ρ;rw[Zde];have e0:ef V (2*id) ρ=V id ρ:=by unfold ef;rw[show 2*id/2=id by omega,show 2*id%2=0 by omega];simp
 rw[e0,h];unfold iteF;split<;>rw[Zde]<;>cases eneg hi<;>simp
section
variable {d0 d d':Zag}{V0 V:Nat->BF}{k x y:Nat}{Wt:List (Nat×Nat)}{E:Nat->Int}{done:Nat->Prop}
theorem Zb0.valX (m:Zb0 d0 V0 k x y Wt E done d V)(hk:Dag d0.vars.length (levN d0) (Zab d0) V0){id a b:Nat}(hb:Zab d id=some ⟨x,a,b⟩)(hT:¬ Turns (Zab d0) x y id)(ha:lowE d0.vars.length (levN d0) (Zab d0) y a)(hbb:lowE d0.vars.length (levN d0) (Zab d0) y b):V id=iteF x (ef V b) (ef V a):=by
 have e1:=Zgv m.mid.ext ha.1;have e2:=Zgv m.mid.ext hbb.1;rw[e1,e2];cases h0:Zab d0 id with
 | none=>exact(m.mid.fresh id _ hb h0).2.2.2.2.2
 | some c =>
   have g0:=m.mid.keep id c h0 (fun hd=>hT (m.mid.dn _ hd).1);rw[hb] at g0;cases g0;rw[m.mid.ext id (.inr ⟨_,h0⟩)];exact hk.eqn _ _ h0
theorem Zdo {n:Nat}{lev:Nat->Nat}{N:Nat->Option BN}{y e:Nat}{b:Bool}(h:lowE n lev N y e):lowE n lev N y (eflip e b):=⟨Zea h.1,by rw[Zd7];exact h.2⟩
def bkey (lo hi:Nat):Nat×Nat:=(eflip lo (eneg hi),eflip hi (eneg hi))
structure Zgj (d0:Zag)(V0:Nat->BF)(k x y:Nat)(Wt:List (Nat×Nat))(done:Nat->Prop)(d:Zag)(V:Nat->BF)(lo hi:Nat)(r:Nat)(d':Zag)(V':Nat->BF):Prop where
 mid:Zb0 d0 V0 k x y Wt (Za0 d0) done d' V'
 edge:midE d0.vars.length (levN d0) (Zab d0) (Zab d') x y r
 val:ef V' r=iteF x (ef V0 hi) (ef V0 lo)
 reg:hi%2=0->r%2=0
 keep:∀ e,midE d0.vars.length (levN d0) (Zab d0) (Zab d) x y e->midE d0.vars.length (levN d0) (Zab d0) (Zab d') x y e/\ef V' e=ef V e
theorem Zoy (id:Nat)(hi:Nat)(h:hi%2=0):eflip (2*id) (eneg hi)%2=0:=by
 unfold eneg eflip;have:(hi%2 == 1)=false:=by rw[h];rfl
 rw[this];simp
theorem Zsw (m:Zb0 d0 V0 k x y Wt (Za0 d0) done d V){lo:Nat}(hlo:lowE d0.vars.length (levN d0) (Zab d0) y lo):Zgj d0 V0 k x y Wt done d V lo lo lo d V :=
 ⟨m,.inl hlo,by rw[Zgv m.mid.ext hlo.1];funext ρ;unfold iteF;split<;>rfl,fun h=>h,fun e he=>⟨he,rfl⟩⟩
theorem Zqt (m:Zb0 d0 V0 k x y Wt (Za0 d0) done d V)(hk:Dag d0.vars.length (levN d0) (Zab d0) V0){lo hi id:Nat}(hlo:lowE d0.vars.length (levN d0) (Zab d0) y lo)(hhi:lowE d0.vars.length (levN d0) (Zab d0) y hi)(ht:d.tab x (bkey lo hi)=some id) :
 Zgj d0 V0 k x y Wt done d V lo hi (eflip (2*id) (eneg hi)) d V:=by
 obtain⟨hb,hT⟩:=(m.tabX _ _ id).1 ht;refine⟨m,.inr ⟨_,by rw[Zc5,show 2*id/2=id by omega];exact hb,rfl,by rw[Zc5,show 2*id/2=id by omega];exact hT⟩,?_,Zoy id hi,fun e he=>⟨he,rfl⟩⟩;rw[Zry (m.valX hk hb hT (Zdo hlo) (Zdo hhi)),Zgv m.mid.ext hlo.1,Zgv m.mid.ext hhi.1]
theorem Zux (m:Zb0 d0 V0 k x y Wt (Za0 d0) done d V)(hk:Dag d0.vars.length (levN d0) (Zab d0) V0){lo hi id:Nat}(hlo:lowE d0.vars.length (levN d0) (Zab d0) y lo)(hhi:lowE d0.vars.length (levN d0) (Zab d0) y hi)(hne:lo≠hi)
 (ht:d.tab x (bkey lo hi)=none) (r:Zkh d d' id x (bkey lo hi).1 (bkey lo hi).2) (hW:bkey lo hi∈Wt) (hWn:Wt.Nodup) :
 Zgj d0 V0 k x y Wt done d V lo hi (eflip (2*id) (eneg hi)) d' (addV V id ⟨x,(bkey lo hi).1,(bkey lo hi).2⟩):=by
 have hid:id≠0:=by have:=r.pos;omega
 have m':=m.add r (Zdo hlo) (Zdo hhi) (Zmg hi) (Zj6 hne) ht hW hWn;have hT:¬ Turns (Zab d0) x y id:=fun⟨q,hq,_⟩=>by rw[m.has0 r.none] at hq;cases hq
 have hb:Zab d' id=some ⟨x,(bkey lo hi).1,(bkey lo hi).2⟩:=by rw[r.nodes,Zb4]
 refine⟨m',.inr ⟨_,by rw[Zc5,show 2*id/2=id by omega];exact hb,rfl,by rw[Zc5,show 2*id/2=id by omega];exact hT⟩,?_,Zoy id hi,fun e he=>?_⟩
 . rw[Zry (m'.valX hk hb hT (Zdo hlo) (Zdo hhi)),Zgv m'.mid.ext hlo.1,Zgv m'.mid.ext hhi.1]
 .
  rcases he with he|⟨c,hc,g1,g2⟩
  . exact⟨.inl he,by rw[Zgv m'.mid.ext he.1,Zgv m.mid.ext he.1]⟩
  .
   have g0:e/2≠id:=by rintro e';rw[e',r.none] at hc;cases hc
   refine⟨.inr ⟨c,by rw[r.nodes,Zba _ g0];exact hc,g1,g2⟩,?_⟩;funext ρ;simp only[ef,addV,if_neg g0]
theorem Zb0.fits (m:Zb0 d0 V0 k x y Wt E done d V){κ:Nat×Nat}(hW:κ∈Wt)(ht:d.tab x κ=none)(hroom:d0.pool.many+Wt.length<=d0.pool.room):d.pool.many<d.pool.room:=by
 have h1:(Wt.filter fun κ=>(d.tab x κ).isSome).length<Wt.length:=by
  rw[<- Nat.not_le];intro g0;have h2:=List.length_filter_le (fun κ=>(d.tab x κ).isSome) Wt;have h3:=List.length_filter_eq_length_iff.1 (Nat.le_antisymm h2 g0);have:=h3 κ hW;rw[ht] at this;cases this
 rw[m.many,m.room];omega
end
theorem Zol {d0:Zag}{V0:Nat->BF}{k x y:Nat}{Wt:List (Nat×Nat)}{done:Nat->Prop}{d:Zag}{V:Nat->BF}{o:Own}{w:World}{sb:Nat}(h:Zax o w sb d)(hlt:Zal o w)(m:Zb0 d0 V0 k x y Wt (Za0 d0) done d V)
 (hk:Dag d0.vars.length (levN d0) (Zab d0) V0) (hacy:Acy (Zab d) (rkSw d0.vars.length (levN d0) (Zab d0) x y (Zab d))) (hx:x<d0.vars.length) (hvl:d.vars.length=d0.vars.length) (lo hi:Nat) (hlo:lowE d0.vars.length (levN d0) (Zab d0) y lo) (hhi:lowE d0.vars.length (levN d0) (Zab d0) y hi)
 (hkey:lo≠hi->d.tab x (bkey lo hi)=none->bkey lo hi∈Wt) (hWn:Wt.Nodup) (hroom:d0.pool.many+Wt.length<=d0.pool.room) :
 Calls prog 219 #[.pointer (some ⟨sb,0,none⟩),.int .i64 x,.int .i64 lo,.int .i64 hi] w fun e w'=>∃ r:Nat,e=.returned (.int .i64 r)/\∃ o' d' V',Zax o' w' sb d'/\Zal o' w'/\Zgj d0 V0 k x y Wt done d V lo hi r d' V'/\d'.vars.length=d0.vars.length/\Chg Zar o o' w w':=by
 obtain⟨s,h⟩:=h;have okL:=Zja m.mid hlo.1;have okH:=Zja m.mid hhi.1;have g9:=h.edge_lt okL;have ga:=h.edge_lt okH;have g4:lo<eMax:=by unfold eMax;omega
 have g6:hi<eMax:=by unfold eMax;omega
 by_cases g8:lo=hi
 .
  subst g8;have HF:Hid (∃ r:Nat,Ending.returned (.int .i64 (lo:Nat))=.returned (.int .i64 r)/\∃ o' d' V',Zax o' w sb d'/\Zal o' w/\Zgj d0 V0 k x y Wt done d V lo lo r d' V'/\d'.vars.length=d0.vars.length/\Chg Zar o o' w w):=Hd ⟨lo,rfl,o,d,V,⟨s,h⟩,hlt,Zsw m hlo,hvl,Chg.refl _ _ _⟩;clear h hlt m hk hacy hlo hhi hkey g4 g6 g9 ga okL okH
  go_enter func219,ntmps219
  go_wp2_with fail;go_ret;exact HF.out
 have gp:((lo:Int) == hi)=false:=by simp;omega
 have hv:x<d.vars.length:=by rw[hvl];exact hx
 have g1:=Hd (fun W=>Zkc lo hi W g4 g6);have gc:=Hd (h.tab x (by rw[h.tlen];exact hv));obtain⟨gt,ct,gg,gl,go,gr⟩:=h.tabAt hv;obtain⟨c0,c1,c2,c3,c4,f0⟩:=cells5 h.blk;rw[gg] at c2;obtain⟨t,ht⟩:∃ t,t=s.ts.getD x 0:=⟨_,rfl⟩;rw[<- ht] at gl gc;have gq:(x:Int)<s.ts.length:=by omega
 obtain⟨lo2,g5⟩:∃ q,q=eflip lo (eneg hi):=⟨_,rfl⟩;obtain⟨g3,g7⟩:∃ q,q=eflip hi (eneg hi):=⟨_,rfl⟩;obtain⟨ng,ge⟩:∃ q,q=eneg hi:=⟨_,rfl⟩;have g2:bkey lo hi=(lo2,g3):=by unfold bkey;rw[g5,g7]
 rw[<- g5,<- g7] at g1;cases g0:d.tab x (lo2,g3) with
 | some id =>
   have gi:=Hd (fun W (hb:Below w.heap.size w W)=>Znc o x t (d.tab x) lo2 g3 id W (gc.out.below hb hlt) g0);have gd:=((m.tabX _ _ id).1 g0).1;have gh:=(h.tk_lt gd).2;have gf:=Hd (fun W=>Zr9 id (eneg hi) W (by omega));have HF:Hid (∀ W,Below w.heap.size w W->∃ r:Nat,Ending.returned (.int .i64 (eflip (2*id) (eneg hi):Nat))=.returned (.int .i64 r)/\∃ o' d' V',Zax o' W sb d'/\Zal o' W/\Zgj d0 V0 k x y Wt done d V lo hi r d' V'/\d'.vars.length=d0.vars.length/\Chg Zar o o' w W) :=
    Hd fun W hb=>⟨_,rfl,o,d,V,⟨s,h.below hlt hb⟩,hlt.mono hb.size,Zqt m hk hlo hhi (by rw[g2];exact g0),hvl,Chg.of_below hb _ _⟩
   rw[<- ge] at g1 gf HF;clear h hlt m hk hacy hlo hhi hkey g4 g6 g9 ga okL okH g0 gd gh g5 g7 ge g2 hv g8 hvl ht gg
   go_enter func219,ntmps219
   go_wp2_with fail;refine(g1.out _).mono ?_;rintro e w' ⟨rfl,rfl⟩;go_wp2_with fail;refine(gi.out _ (Below.refl _ _)).mono ?_;rintro e w' ⟨rfl,rfl⟩;go_wp2_with fail;refine(gf.out _).mono ?_;rintro e w' ⟨rfl,rfl⟩;go_wp2_with fail;go_ret;exact HF.out _ (Below.refl _ _)
 | none =>
   have gi:=Hd (Zq3 o x t (d.tab x) lo2 g3 w gc.out g0);have hW:bkey lo hi∈Wt:=hkey g8 (by rw[g2];exact g0);have gm:=Hd (Zju h hlt (by rw[m.ext];exact m.live) (fun i b hb=>⟨hacy.okLo i b hb,hacy.okHi i b hb⟩) x lo2 g3 hv g0 m.clen);have gj:Hid (d.pool.many≠d.pool.room):=Hd fun e=>by have:=m.fits hW (by rw[g2];exact g0) hroom;omega
   have HF:Hid (∀ id d' o' W,Zax o' W sb d'->Zal o' W->Zkh d d' id x lo2 g3->Chg Zar o o' w W->∃ r:Nat,Ending.returned (.int .i64 (eflip (2*id) (eneg hi):Nat))=.returned (.int .i64 r)/\∃ o' d' V',Zax o' W sb d'/\Zal o' W/\Zgj d0 V0 k x y Wt done d V lo hi r d' V'/\d'.vars.length=d0.vars.length/\Chg Zar o o' w W):=by
    refine Hd fun id d' o' W h1 h2 h3 h4=>⟨_,rfl,o',d',_,h1,h2,Zux m hk hlo hhi g8 (by rw[g2];exact g0) (by rw[g2];exact h3) hW hWn,by rw[h3.vars];exact hvl,h4⟩
   rw[<- ge] at g1 HF;clear h hlt m hk hacy hlo hhi hkey g4 g6 g9 ga okL okH g0 g5 g7 g2 hv g8 hvl ht gg hW ge
   go_enter func219,ntmps219
   go_wp2_with fail;refine(g1.out _).mono ?_;rintro e w' ⟨rfl,rfl⟩;go_wp2_with fail;refine gi.out.mono ?_;rintro e w' ⟨rfl,rfl⟩;go_wp2_with fail;refine gm.out.mono ?_;rintro e w6 (⟨hm,rfl,gu⟩|⟨id,d',o',rfl,hs,gk,hr,hc⟩)
   . exact(gj.out hm).elim
   .
    have gh:id<1048578:=by
     obtain⟨s',hs'⟩:=hs;have hn:Zab d' id=some ⟨x,lo2,g3⟩:=by rw[hr.nodes,Zb4]
     have:=hs'.tk_lt hn;omega
    have gf:=Hd (Zr9 id ng w6 (by omega));have gn:=Hd (HF.out id d' o' w6 hs gk hr hc);clear hs gk hr hc c0 c1 c2 c3 c4 f0 gl;go_wp2_with fail;refine gf.out.mono ?_;rintro e w' ⟨rfl,rfl⟩;go_wp2_with fail;go_ret;exact gn.out
open Go.RowKit
section
variable {d0 d:Zag}{V0 V:Nat->BF}{k x y:Nat}{Wt:List (Nat×Nat)}{E:Nat->Int}{done:Nat->Prop}
structure Zzy (d0:Zag)(V0:Nat->BF)(x y i ll lh hl hh:Nat):Prop where
 f1:lowE d0.vars.length (levN d0) (Zab d0) y ll
 f2:lowE d0.vars.length (levN d0) (Zab d0) y lh
 f3:lowE d0.vars.length (levN d0) (Zab d0) y hl
 f4:lowE d0.vars.length (levN d0) (Zab d0) y hh
 val:∀ ρ,V0 i ρ=if ρ x then (if ρ y then ef V0 hh ρ else ef V0 hl ρ) else (if ρ y then ef V0 lh ρ else ef V0 ll ρ)
 reg:hh%2=0
theorem Zxh (hk:Zaq d0 V0)(hy:y<d0.vars.length)(hl:levN d0 y=levN d0 x+1){i:Nat}{b:BN}(hb:Zab d0 i=some b)(hbx:b.v=x) :
 Zzy d0 V0 x y i (cofs d0 b.lo y).1 (cofs d0 b.lo y).2 (cofs d0 b.hi y).1 (cofs d0 b.hi y).2:=by
 have l1:=hk.dag.lvLo _ _ hb;have l2:=hk.dag.lvHi _ _ hb;rw[hbx] at l1 l2;obtain⟨a1,a2,a3,a4,a5⟩:=Zf4 hk (hk.dag.okLo _ _ hb) hy (by omega);obtain⟨c1,c2,c3,c4,c5⟩:=Zf4 hk (hk.dag.okHi _ _ hb) hy (by omega);refine⟨⟨a1,a3⟩,⟨a2,a4⟩,⟨c1,c3⟩,⟨c2,c4⟩,fun ρ=>?_,?_⟩
 . rw[hk.dag.eqn _ _ hb,hbx];unfold iteF;rw[a5 ρ,c5 ρ]
 .
  have hr:=hk.dag.reg _ _ hb;unfold cofs;cases hc:Zab d0 (b.hi/2) with
  | none=>exact hr
  | some c =>
    dsimp only;split
    .
     have:eneg b.hi=false:=by unfold eneg;rw[hr];rfl
     dsimp only;rw[this];exact hk.dag.reg _ _ hc
    . exact hr
theorem Zuj (hk:Zaq d0 V0)(hx:x<d0.vars.length)(hy:y<d0.vars.length)(hxy:x≠y)(hl:levN d0 y=levN d0 x+1){i ll lh hl' hh lo hi:Nat}(t:Zzy d0 V0 x y i ll lh hl' hh)(hne:ll≠lh\/hl'≠hh)
 (h1:ef V lo=iteF x (ef V0 hl') (ef V0 ll)) (h2:ef V hi=iteF x (ef V0 hh) (ef V0 lh)):V0 i=iteF y (ef V hi) (ef V lo)/\lo≠hi:=by
 constructor
 . funext ρ;rw[t.val ρ,h1,h2];unfold iteF;cases ρ x<;>cases ρ y<;>rfl
 .
  rintro rfl;rw[h1] at h2;have ind:∀ {e:Nat},lowE d0.vars.length (levN d0) (Zab d0) y e->∀ (ρ:Nat->Bool) (b:Bool),ef V0 e (upd ρ x b)=ef V0 e ρ:=fun he ρ b=>hk.dag.indep_var he.1 (by have:=he.2;omega) ρ b
  have e1:ef V0 hl'=ef V0 hh:=by
   funext ρ;have:=congrFun h2 (upd ρ x true);unfold iteF at this;rw[Zoa,ind t.f3,ind t.f4] at this;simpa using this
  have e2:ef V0 ll=ef V0 lh:=by
   funext ρ;have:=congrFun h2 (upd ρ x false);unfold iteF at this;rw[Zoa,ind t.f1,ind t.f2] at this;simpa using this
  rcases hne with h|h
  . exact h (hk.dag.canon t.f1.1 t.f2.1 e2)
  . exact h (hk.dag.canon t.f3.1 t.f4.1 e1)
theorem Zvf {kk:Nat}{N:Nat->Option BN}{c:Nat->Nat}{i:Nat}{b b':BN}(hb:N i=some b):Zek kk (setN N i b') c=Zek kk N c:=by
 unfold Zek;refine Zbb _ fun j _=>?_
 unfold dead1 setN
 by_cases e:j=i
 . subst e;rw[if_pos rfl,hb]
 . rw[if_neg e]
theorem Zb0.set {i lo hi:Nat}{b:BN}{p':Zao}(m:Zb0 d0 V0 k x y Wt E done d V)(hxy:x≠y)(hk:Dag d0.vars.length (levN d0) (Zab d0) V0)(hy:y<d0.vars.length)(hT:Turns (Zab d0) x y i)(hd:¬ done i)(hb:Zab d0 i=some b)
 (hlo:midE d0.vars.length (levN d0) (Zab d0) (Zab d) x y lo) (hhi:midE d0.vars.length (levN d0) (Zab d0) (Zab d) x y hi) (hr:hi%2=0) (hne:lo≠hi) (hV:V0 i=iteF y (ef V hi) (ef V lo))
 (hn:Zab { d with pool:=p' }=setN (Zab d) i ⟨y,lo,hi⟩) (he:Za0 { d with pool:=p' }=Za0 d) (h1:p'.room=d.pool.room) (h2:p'.many=d.pool.many) (h3:p'.at_.length=d.pool.at_.length) :
 Zb0 d0 V0 k x y Wt (addE (addE (addE (addE E b.lo 1) b.hi 1) lo (-1)) hi (-1)) (fun j=>done j\/j=i) { d with pool:=p',tab:=fun u=>if u=y then putF (d.tab u) (lo,hi) (some i) else d.tab u } V:=by
 have g5:=m.fresh_y hk hxy hy hT hd hV;have g1:Zab d i=some b:=m.mid.keep i b hb hd;have g4:b.v=x:=Zro hb hT;have g0:Zab { d with pool:=p',tab:=fun u=>if u=y then putF (d.tab u) (lo,hi) (some i) else d.tab u }=setN (Zab d) i ⟨y,lo,hi⟩:=hn;refine⟨by rw[g0];exact m.mid.turn hxy hT hlo hhi hr hne hV,m.vars,m.level,h1.trans m.room,he.trans m.ext,⟨?_,?_,fun j c hc=>?_⟩,fun v hv g2 lo' g3 j=>?_,fun lo' g3 j=>?_,m.clen,m.pos,?_⟩
 .
  show Cnt p'.at_.length _ (Zaz d) _
  rw[g0,h3];exact m.live.cnt.setLive g1 (m.pos i hT)
 .
  show (d.dead:Int)=Zek p'.at_.length _ (Zaz d)
  rw[g0,h3,Zvf g1];exact m.live.dead
 .
  rw[g0] at hc
  show j<d.counts.length
  unfold setN at hc;split at hc
  . rename_i e;rw[e];exact m.live.has i b g1
  . exact m.live.has j c hc
 .
  rw[g0];dsimp only
  by_cases e:v=y
  .
   subst e;rw[if_pos rfl];unfold putF
   by_cases e2:(lo',g3)=(lo,hi)
   .
    cases e2;rw[if_pos rfl];constructor
    . intro e3;cases e3;simp[setN]
    .
     intro e3;unfold setN at e3;split at e3
     . rename_i e4;rw[e4]
     . have:=(m.tabO v hv g2 _ _ j).2 e3;rw[g5] at this;cases this
   .
    rw[if_neg e2,m.tabO v hv g2];unfold setN
    by_cases e4:j=i
    .
     subst e4;rw[if_pos rfl,g1];constructor
     . intro e5;cases e5;exact absurd g4 (Ne.symm hxy)
     . intro e5;cases e5;exact absurd rfl e2
    . rw[if_neg e4]
  .
   rw[if_neg e,m.tabO v hv g2];unfold setN
   by_cases e4:j=i
   .
    subst e4;rw[if_pos rfl,g1];constructor
    . intro e5;cases e5;exact absurd g4 g2
    . intro e5;cases e5;exact absurd rfl e
   . rw[if_neg e4]
 .
  rw[g0];dsimp only;rw[if_neg hxy,m.tabX];unfold setN
  by_cases e4:j=i
  .
   subst e4;rw[if_pos rfl];constructor
   . rintro⟨_,h⟩;exact(h hT).elim
   . rintro⟨_,h⟩;exact(h hT).elim
  . rw[if_neg e4]
 .
  show p'.many=_
  rw[h2,m.many];dsimp only;rw[if_neg hxy]
end
open Go.RowKit
structure TRow (w:World)(base:Nat)(v:Value)(ts:List TN):Prop where
 small:ts.length<=1048578
 ex:∃ a c,v=.slice a ts.length c/\∀ k,∀ hk:k<ts.length,∃ g,a=some ⟨g,0,none⟩/\base<=g/\∀ j u,(tnV ts[k])[j]?=some u->w.cell? ⟨g,k*9+j,none⟩=some u
theorem TRow.keep {w w':World}{base:Nat}{v:Value}{ts:List TN}(h:TRow w base v ts)(hk:∀ g,base<=g->g<w.heap.size->v.ownBlock=some g->w'.heap[g]?=w.heap[g]?):TRow w' base v ts:=by
 obtain⟨a,c,rfl,h1⟩:=h.ex;refine⟨h.small,a,c,rfl,fun k g0=>?_⟩;obtain⟨g,rfl,hb,hc⟩:=h1 k g0;refine⟨g,rfl,hb,fun j u hu=>?_⟩;have:=hc j u hu;exact(World.cell?_of_block (w:=w) (a:=⟨g,k*9+j,none⟩) (hk g hb (Zaa this) rfl)).trans this
theorem TRow.below {w w':World}{base:Nat}{v:Value}{ts:List TN}(h:TRow w base v ts)(hb:Below w.heap.size w w'):TRow w' base v ts:=h.keep fun g _ hg _=>hb.block g hg
def Zcl (t:TN):List (Nat×Nat):=[(t.ll,t.hl),(t.lh,t.hh)]
structure Zgq (f:Nat×Nat->Option Nat)(ps:List (Nat×Nat))(Wt:List (Nat×Nat)):Prop where
 nodup:Wt.Nodup
 free:∀ κ∈Wt,f κ=none
 has:∀ p∈ps,p.1≠p.2->f (bkey p.1 p.2)=none->bkey p.1 p.2∈Wt
 len:Wt.length<=ps.length
theorem Zgq.skip {f:Nat×Nat->Option Nat}{ps Wt:List (Nat×Nat)}(h:Zgq f ps Wt){p:Nat×Nat}(hp:p.1≠p.2->f (bkey p.1 p.2)=none->bkey p.1 p.2∈Wt):Zgq f (ps++[p]) Wt :=
 ⟨h.nodup,h.free,fun q hq=>by
  rcases List.mem_append.1 hq with hq|hq
  . exact h.has q hq
  . simp only[List.mem_singleton] at hq;subst hq;exact hp,by have:=h.len;simp;omega⟩
theorem Zgq.add {f:Nat×Nat->Option Nat}{ps Wt:List (Nat×Nat)}(h:Zgq f ps Wt){p:Nat×Nat}(h1:f (bkey p.1 p.2)=none)(h2:bkey p.1 p.2∉Wt):Zgq f (ps++[p]) (Wt++[bkey p.1 p.2]) :=
 ⟨List.nodup_append.2 ⟨h.nodup,by simp,fun a ha b hb=>by simp only[List.mem_singleton] at hb;subst hb;rintro rfl;exact h2 ha⟩,fun κ hκ=>by
  rcases List.mem_append.1 hκ with hκ|hκ
  . exact h.free κ hκ
  . simp only[List.mem_singleton] at hκ;subst hκ;exact h1,fun q hq h3 h4=>by
  rcases List.mem_append.1 hq with hq|hq
  . exact List.mem_append_left _ (h.has q hq h3 h4)
  . simp only[List.mem_singleton] at hq;subst hq;simp,by have:=h.len;simp;omega⟩
def Zld (Wt:List (Nat×Nat)):List ((Nat×Nat)×Value):=Wt.map fun κ=>(κ,.bool true)
theorem Zle (κ:Nat×Nat):∀ (Wt:List (Nat×Nat)) (i:Nat),(Zdq κ (Zld Wt) i).map (·.2)=if κ∈Wt then some (.bool true) else none
 | [],_=>rfl
 | a::l,i=>by
   show (if a=κ then some (i,Value.bool true) else Zdq κ (Zld l) (i+1)).map (·.2)=_
   by_cases e:a=κ
   . rw[if_pos e];simp[e]
   . rw[if_neg e,Zle κ l (i+1)];simp[Ne.symm e]
theorem Zyq (Wt:List (Nat×Nat))(κ:Nat×Nat):(getL (Zld Wt) κ).getD (.bool false)=.bool (decide (κ∈Wt)):=by
 unfold getL;rw[Zle]
 by_cases h:κ∈Wt
 . rw[if_pos h,decide_eq_true h];rfl
 . rw[if_neg h,decide_eq_false h];rfl
theorem Zyr {Wt:List (Nat×Nat)}{κ:Nat×Nat}(h:κ∉Wt):putL κ (.bool true) (Zld Wt)=Zld (Wt++[κ]):=by
 have h1:=Zle κ Wt 0;rw[if_neg h] at h1;unfold putL;cases e:Zdq κ (Zld Wt) 0 with
 | none=>simp[Zld]
 | some p=>rw[e] at h1;cases h1
theorem Zxj {o:Own}{w:World}{sb:Nat}{d:Zag}{s:Za7}(h:Zap o w sb d s)(hlt:Zal o w)(x:Nat)(hx:x<d.vars.length){v:Value}{ts:List TN}{base:Nat}(hr:TRow w base v ts)(hok:∀ t∈ts,t.ll<eMax/\t.lh<eMax/\t.hl<eMax/\t.hh<eMax) :
 Calls prog 214 #[.pointer (some ⟨sb,0,none⟩),.int .i64 x,v] w fun e w'=>∃ Wt,e=.returned (.int .i64 (Wt:List (Nat×Nat)).length)/\Zgq (d.tab x) (ts.flatMap Zcl) Wt/\Below w.heap.size w w':=by
 obtain⟨a,c,rfl,gg⟩:=hr.ex;have hz:=hr.small;have HR:=Hd hr;obtain⟨gt,ct,gH,gC,hu,hy⟩:=h.tabAt hx;obtain⟨c0,c1,c2,c3,c4,f0⟩:=cells5 h.blk;rw[gH] at c2;have gF:=Hd (h.tab x (by rw[h.tlen];exact hx));have hg:=Hd hlt;obtain⟨t,ht⟩:∃ t,t=s.ts.getD x 0:=⟨_,rfl⟩;rw[<- ht] at gC gF;have hv:(x:Int)<s.ts.length:=by omega
 have hm:=Hd gg;have hd:Hid (∀ k,∀ hk:k<ts.length,ts[k].ll<eMax/\ts[k].lh<eMax/\ts[k].hl<eMax/\ts[k].hh<eMax):=Hd fun k hk=>hok _ (List.getElem_mem hk)
 clear h hlt hr ht gH gg hok c0 c1 c3 c4 f0;have h5:=Zh8 (P:=prog) w 306;obtain⟨w1,gf⟩:∃ w1,w1=w.alloc (.map #[] 0):=⟨_,rfl⟩;have hf:Hid (Zcw w1 w.heap.size encE (Zld [])):=by rw[gf];exact Hd (Zpl w encE)
 have hp:Hid (Below w.heap.size w w1):=by rw[gf];exact Hd (Zad _ _)
 have hs1:w1.heap.size=w.heap.size+1:=by rw[gf];simp
 rw[<- gf] at h5;clear gf
 go_enter func214,ntmps214
 go_wp2_with fail
 go_loopw [8,22] (fun s8 s22 wr=>∃ (k:Nat) (Wt:List (Nat×Nat)),k<=ts.length/\s22=.int .i64 k/\s8=.int .i64 Wt.length/\Below w.heap.size w wr/\w1.heap.size<=wr.heap.size/\Zcw wr w.heap.size encE (Zld Wt)/\Hid (Zgq (d.tab x) ((ts.take k).flatMap Zcl) Wt)) (fun _ s22 _=>ts.length-(intOf s22).toNat)
 case atStart=>exact⟨0,[],Nat.zero_le _,rfl,rfl,hp.out,Nat.le_refl _,hf.out,Hd ⟨List.nodup_nil,fun _ h=>by simp at h,fun _ h=>by simp at h,Nat.le_refl _⟩⟩
 case round =>
  obtain⟨k,Wt,hk,rfl,rfl,g4,gZ,g3,HW⟩:=hrel;have gc:=Hd g4;have gG:=Hd g3;clear g4 g3
  by_cases hlt:k<ts.length
  .
   obtain⟨g,rfl,hB,hc⟩:=hm.out k hlt;obtain⟨ok1,ok2,ok3,ok4⟩:=hd.out k hlt
   have gE:Hid ((ts.take (k+1)).flatMap Zcl=(ts.take k).flatMap Zcl++[(ts[k].ll,ts[k].hl),(ts[k].lh,ts[k].hh)]):=Hd (by
    rw[List.take_succ_eq_append_getElem hlt,List.flatMap_append];rfl)
   have g2:=gc.out;obtain⟨tn,gI⟩:∃ tn,tn=ts[k]:=⟨_,rfl⟩;rw[<- gI] at hc ok1 ok2 ok3 ok4 gE;obtain⟨⟨i0,i1,i2,i3,i4⟩,ll,lh,hl,hh⟩:=tn;have e0:=(g2.cell (p:=⟨g,k*9,none⟩) (Zaa (hc 0 _ rfl))).trans (hc 0 _ rfl);have e1:=(g2.cell (p:=⟨g,k*9+1,none⟩) (Zaa (hc 1 _ rfl))).trans (hc 1 _ rfl);have e2:=(g2.cell (p:=⟨g,k*9+2,none⟩) (Zaa (hc 2 _ rfl))).trans (hc 2 _ rfl);have e3:=(g2.cell (p:=⟨g,k*9+3,none⟩) (Zaa (hc 3 _ rfl))).trans (hc 3 _ rfl);have e4:=(g2.cell (p:=⟨g,k*9+4,none⟩) (Zaa (hc 4 _ rfl))).trans (hc 4 _ rfl);have e5:=(g2.cell (p:=⟨g,k*9+5,none⟩) (Zaa (hc 5 _ rfl))).trans (hc 5 _ rfl);have e6:=(g2.cell (p:=⟨g,k*9+6,none⟩) (Zaa (hc 6 _ rfl))).trans (hc 6 _ rfl);have e7:=(g2.cell (p:=⟨g,k*9+7,none⟩) (Zaa (hc 7 _ rfl))).trans (hc 7 _ rfl);have e8:=(g2.cell (p:=⟨g,k*9+8,none⟩) (Zaa (hc 8 _ rfl))).trans (hc 8 _ rfl);dsimp only at ok1 ok2 ok3 ok4 gE;have h6:(k:Int)<ts.length:=by omega
   clear hc g2 gI;go_upto_region 7 with fail;obtain⟨wi,gq⟩:∃ wi,wi=(wr.alloc (.cells #[.int .i64 i0,.int .i64 i1,.int .i64 i2,.int .i64 i3,.int .i64 i4,.int .i64 ll,.int .i64 lh,.int .i64 hl,.int .i64 hh] 279)).alloc (.cells #[.int .i64 ll,.int .i64 hl,.int .i64 lh,.int .i64 hh] 291):=⟨_,rfl⟩;rw[<- gq];have gv:Below wr.heap.size wr wi:=by rw[gq];exact(Zad _ _).alloc (by simp) _
   have g0:wi.heap[wr.heap.size+1]?=some (.cells #[.int .i64 ll,.int .i64 hl,.int .i64 lh,.int .i64 hh] 291 (0,0)):=by
    rw[gq];have:=heap_alloc_new (wr.alloc (.cells #[.int .i64 i0,.int .i64 i1,.int .i64 i2,.int .i64 i3,.int .i64 i4,.int .i64 ll,.int .i64 lh,.int .i64 hl,.int .i64 hh] 279)) (.cells #[.int .i64 ll,.int .i64 hl,.int .i64 lh,.int .i64 hh] 291);rw[World.size_alloc] at this;exact this
   have HP:Hid (∀ j,j<2->∃ p1 p2:Nat,wi.cell? ⟨wr.heap.size+1,j*2,none⟩=some (.int .i64 p1)/\wi.cell? ⟨wr.heap.size+1,j*2+1,none⟩=some (.int .i64 p2)/\p1<eMax/\p2<eMax/\[(ll,hl),(lh,hh)].take (j+1)=[(ll,hl),(lh,hh)].take j++[(p1,p2)]):=by
    refine Hd fun j hj=>?_
    rcases(by omega:j=0\/j=1) with rfl|rfl
    . exact⟨ll,hl,by rw[cell_of_row _ _ _ _ _ _ g0];rfl,by rw[cell_of_row _ _ _ _ _ _ g0];rfl,ok1,ok3,rfl⟩
    . exact⟨lh,hh,by rw[cell_of_row _ _ _ _ _ _ g0];rfl,by rw[cell_of_row _ _ _ _ _ _ g0];rfl,ok2,ok4,rfl⟩
   have hn:=Hd (gc.out.trans (gv.mono gc.out.size));have gM:=gG.out.below gv;have gT:w1.heap.size<=wi.heap.size:=Nat.le_trans gZ gv.size;have gL:wr.heap.size+1<wi.heap.size:=(Array.getElem?_eq_some_iff.1 g0).1;clear gq g0 e0 e1 e2 e3 e4 e5 e6 e7 e8 ok1 ok2 ok3 ok4 gG gc gv
   go_loopw [8,38] (fun s8 s38 wx=>∃ (j:Nat) (Wt:List (Nat×Nat)),j<=2/\s38=.int .i64 j/\s8=.int .i64 Wt.length/\Below w.heap.size w wx/\wi.heap.size<=wx.heap.size/\(∀ q,q≠w.heap.size->q<wi.heap.size->wx.heap[q]?=wi.heap[q]?)/\Zcw wx w.heap.size encE (Zld Wt)/\Hid (Zgq (d.tab x) ((ts.take k).flatMap Zcl++[(ll,hl),(lh,hh)].take j) Wt)) (fun _ s38 _=>2-(intOf s38).toNat)
   case atStart=>exact⟨0,Wt,Nat.zero_le _,rfl,rfl,hn.out,Nat.le_refl _,fun _ _ _=>rfl,gM,Hd (by simpa using HW.out)⟩
   case round =>
    rename World=>wy
    clear HW gM;obtain⟨j,W2,hj,rfl,rfl,g4,gA,g5,g3,HW⟩:=hrel
    by_cases gV:j<2
    .
     obtain⟨p1,p2,k1,k2,b1,b2,gJ⟩:=HP.out j gV;have q1:=(World.cell?_of_block (w:=wi) (w':=wy) (a:=⟨wr.heap.size+1,j*2,none⟩) (g5 _ (by dsimp only;omega) gL)).trans k1;have q2:=(World.cell?_of_block (w:=wi) (w':=wy) (a:=⟨wr.heap.size+1,j*2+1,none⟩) (g5 _ (by dsimp only;omega) gL)).trans k2;have gw:=Hd gJ;have gy:=Hd g5;have gm:=Hd g4;have gx:=Hd g3;have hA:(j:Int)<2:=by omega
     clear k1 k2 gJ g5 g4 g3;go_upto_region 9 with fail;obtain⟨wz,go⟩:∃ wz,wz=wy.alloc (.cells #[.int .i64 p1,.int .i64 p2] 291):=⟨_,rfl⟩;rw[<- go];have gh:Below wy.heap.size wy wz:=by rw[go];exact Zad _ _
     have g0:wz.heap[wy.heap.size]?=some (.cells #[.int .i64 p1,.int .i64 p2] 291 (0,0)):=by rw[go];exact heap_alloc_new _ _
     have z1:wz.cell? ⟨wy.heap.size,0,none⟩=some (.int .i64 p1):=by rw[cell_of_row _ _ 0 _ _ _ g0];rfl
     have z2:wz.cell? ⟨wy.heap.size,1,none⟩=some (.int .i64 p2):=by rw[cell_of_row _ _ 1 _ _ _ g0];rfl
     have gd:=Hd (gm.out.trans (gh.mono gm.out.size));have gQ:=Hd (gx.out.below gh);have gR:Hid (∀ q,q≠w.heap.size->q<wi.heap.size->wz.heap[q]?=wi.heap[q]?):=Hd fun q h1 h2=>(gh.block q (by omega)).trans (gy.out q h1 h2)
     have gU:wi.heap.size<=wz.heap.size:=Nat.le_trans gA gh.size;have v2:=(gd.out.cell (p:=⟨sb,2,none⟩) (Zaa c2)).trans c2;have vt:=(gd.out.cell (p:=⟨gt,x,none⟩) (Zaa gC)).trans gC;clear go gh g0 q1 q2 gx gy gm;obtain⟨a1,gk⟩:∃ q,q=eflip p1 (eneg p2):=⟨_,rfl⟩;obtain⟨a2,gj⟩:∃ q,q=eflip p2 (eneg p2):=⟨_,rfl⟩;have gn:Hid (bkey p1 p2=(a1,a2)):=Hd (by unfold bkey;rw[gk,gj])
     have gP:Hid (a1=a2↔p1=p2):=Hd ⟨fun e=>by
      by_cases e2:p1=p2
      . exact e2
      . exact(Zj6 (b:=eneg p2) e2 (by rw[<- gk,<- gj,e])).elim,fun e=>by rw[gk,gj,e]⟩
     have g6:=Hd (Zkc p1 p2 wz b1 b2);rw[<- gk,<- gj] at g6;obtain⟨ng,gK⟩:∃ q,q=eneg p2:=⟨_,rfl⟩;rw[<- gK] at g6;have gD:=Hd (gF.out.below gd.out hg.out);clear gk gj gK b1 b2;go_wp2_with fail;refine g6.out.mono ?_;rintro e w' ⟨rfl,rfl⟩;clear g6 z1 z2;have h7:∃ fd:Option Nat,fd=d.tab x (a1,a2):=⟨_,rfl⟩;obtain⟨fd,gu⟩:=h7;have gz:Hid (Calls prog 226 #[.pointer (some ⟨t,0,none⟩),.int .i64 a1,.int .i64 a2] wz fun x w'=>x=.returned (.tuple #[.int .i64 ((fd.getD 0:Nat):Int),.bool fd.isSome])/\wz=w'):=by
      refine Hd ?_;cases fd with
      | none=>exact Zq3 o x t (d.tab x) a1 a2 wz gD.out gu.symm
      | some id=>exact Znc o x t (d.tab x) a1 a2 id wz gD.out gu.symm
     have gS:=Hd gu;clear gu;go_wp2_with fail;refine gz.out.mono ?_;rintro e w' ⟨rfl,rfl⟩;clear gz v2 vt;go_upto_region 12 with fail;obtain⟨wk,gp⟩:∃ wk,wk=wz.alloc (.cells #[.int .i64 a1,.int .i64 a2] 291):=⟨_,rfl⟩;rw[<- gp];have gi:Below wz.heap.size wz wk:=by rw[gp];exact Zad _ _
     have g0:wk.heap[wz.heap.size]?=some (.cells #[.int .i64 a1,.int .i64 a2] 291 (0,0)):=by rw[gp];exact heap_alloc_new _ _
     have z1:wk.cell? ⟨wz.heap.size,0,none⟩=some (.int .i64 a1):=by rw[cell_of_row _ _ 0 _ _ _ g0];rfl
     have z2:wk.cell? ⟨wz.heap.size,1,none⟩=some (.int .i64 a2):=by rw[cell_of_row _ _ 1 _ _ _ g0];rfl
     have ga:=Hd (gd.out.trans (gi.mono gd.out.size));have gl:=Hd (gQ.out.below gi);have HKK:Hid (∀ q,q≠w.heap.size->q<wi.heap.size->wk.heap[q]?=wi.heap[q]?):=Hd fun q h1 h2=>(gi.block q (by omega)).trans (gR.out q h1 h2)
     have ge:wi.heap.size<=wk.heap.size:=Nat.le_trans gU gi.size;clear gp gi g0 gQ gR gd gD
     by_cases g7:p1=p2
     .
      have gO:a1=a2:=gP.out.2 g7;have g9:Hid (Zgq (d.tab x) ((ts.take k).flatMap Zcl++[(ll,hl),(lh,hh)].take (j+1)) W2):=Hd (by rw[gw.out,<- List.append_assoc];exact HW.out.skip fun h=>(h g7).elim);have gX:((a1:Int) == a2)=true:=by simp[gO]
      clear g7 gO;go_wp2_with fail;go_roundw
      case rel=>exact⟨j+1,W2,by omega,by go_num,rfl,ga.out,ge,HKK.out,gl.out,g9⟩
      case measure=>simp[intOf];omega
     have gX:((a1:Int) == a2)=false:=by
      have h1:a1≠a2:=fun e=>g7 (gP.out.1 e)
      simp;omega
     cases fd with
     | some id =>
       have g9:Hid (Zgq (d.tab x) ((ts.take k).flatMap Zcl++[(ll,hl),(lh,hh)].take (j+1)) W2):=Hd (by
        rw[gw.out,<- List.append_assoc];exact HW.out.skip fun _ h=>by rw[gn.out,<- gS.out] at h;cases h)
       clear g7;go_wp2_with fail;go_roundw
       case rel=>exact⟨j+1,W2,by omega,by go_num,rfl,ga.out,ge,HKK.out,gl.out,g9⟩
       case measure=>simp[intOf];omega
     | none =>
       have g1:=gl.out.lookup (P:=prog) Zpg underlying306 zeroValue4 (a1,a2) false;rw[Zyq] at g1;simp only[Bool.false_eq_true,if_false] at g1
       by_cases g8:(a1,a2)∈W2
       .
        rw[decide_eq_true g8] at g1
        have g9:Hid (Zgq (d.tab x) ((ts.take k).flatMap Zcl++[(ll,hl),(lh,hh)].take (j+1)) W2):=Hd (by
         rw[gw.out,<- List.append_assoc];exact HW.out.skip fun _ _=>by rw[gn.out];exact g8)
        unfold encE at g1;dsimp only at g1;clear g7 g8;go_wp2_with fail;go_roundw
        case rel=>exact⟨j+1,W2,by omega,by go_num,rfl,ga.out,ge,HKK.out,gl.out,g9⟩
        case measure=>simp[intOf];omega
       .
        rw[decide_eq_false g8] at g1
        have g9:Hid (Zgq (d.tab x) ((ts.take k).flatMap Zcl++[(ll,hl),(lh,hh)].take (j+1)) (W2++[(a1,a2)])):=Hd (by
         rw[gw.out,<- List.append_assoc];have:=HW.out.add (p:=(p1,p2)) (by rw[gn.out,<- gS.out]) (by rw[gn.out];exact g8);rw[gn.out] at this;exact this)
        have gY:=Hd (Zyr g8);have hw:W2.length<=4194312:=by
         have h1:=HW.out.len;have h2:((ts.take k).flatMap Zcl).length<=2*ts.length:=by
          rw[List.length_flatMap];have:((ts.take k).map fun a=>(Zcl a).length)=List.replicate (ts.take k).length 2:=by
           rw[List.eq_replicate_iff];exact⟨by simp,fun b hb=>by obtain⟨q,_,rfl⟩:=List.mem_map.1 hb;rfl⟩
          rw[this];simp;omega
         have h3:([(ll,hl),(lh,hh)].take j).length<=2:=by simp;omega
         rw[List.length_append] at h1;omega
        unfold encE at g1;dsimp only at g1;clear g7 g8;go_wp2_with (refine Zh0 (l:=Zld W2) (enc:=encE) rfl _ _ _ rfl Zpg underlying306 (a1,a2) (.bool true) rfl rfl rfl gl.out ?_;intro w6 gB gr);rw[gY.out] at gB;have ho:=Hd (ga.out.grown gr ga.out.size (fun q hq=>by cases hq;exact Nat.le_refl _));have he:=Hd gB;have h4:wi.heap.size<=w6.heap.size:=Nat.le_trans ge gr.size;have hi:Hid (∀ q,q≠w.heap.size->q<wi.heap.size->w6.heap[q]?=wi.heap[q]?):=Hd fun q h1 h2=>(gr.block q (by omega) (fun e=>h1 (by injection e))).trans (HKK.out q h1 h2)
        clear gB gr;go_roundw
        case rel=>exact⟨j+1,W2++[(a1,a2)],by omega,by go_num,by simp,ho.out,h4,hi.out,he.out,g9⟩
        case measure=>simp[intOf];omega
    .
     have h8:j=2:=by omega
     subst h8;have ha:Hid (Zgq (d.tab x) ((ts.take (k+1)).flatMap Zcl) W2):=Hd (by rw[gE.out];exact HW.out);have gm:=Hd g4;have gx:=Hd g3;have h0:w1.heap.size<=wy.heap.size:=Nat.le_trans gT gA;clear g4 g3 g5;go_wp2_with fail;go_roundw
     case rel=>exact⟨k+1,W2,by omega,by go_num,rfl,gm.out,h0,gx.out,ha⟩
     case measure=>simp[intOf];omega
  .
   have gN:k=ts.length:=by omega
   have h9:Hid (∃ W':List (Nat×Nat),Ending.returned (.int .i64 (Wt.length:Nat))=.returned (.int .i64 (W'.length:Nat))/\Zgq (d.tab x) (ts.flatMap Zcl) W'/\Below w.heap.size w wr):=Hd ⟨Wt,rfl,by have:=HW.out;rw[gN,List.take_length] at this;exact this,gc.out⟩;have h6:¬ (k:Int)<ts.length:=by omega
   clear gN;go_wp2_with fail;go_ret;exact h9.out
end Go.Proofs.YtkbegdkpboklpaaGreat

namespace Go.Proofs.YtkbegdkpboklpaaGreat
open Go.Proofs.Tryz
open Go.RowKit Go.Shelf
open Go.ChangeMaps (setBlock)
def Zy9 (n:Nat)(w:World)(v:Value)(ks:List (Nat×Nat)):Prop:=∃ a c,v=.slice a ks.length c/\∀ j q,ks[j]?=some q->∃ g,a=some ⟨g,0,none⟩/\n<=g/\w.cell? ⟨g,j*2,none⟩=some (.int .i64 q.1)/\w.cell? ⟨g,j*2+1,none⟩=some (.int .i64 q.2)
theorem Zkv (ks:List (Nat×Nat)){j:Nat}{q:Nat×Nat}(h:ks[j]?=some q)(i:Nat)(hi:i<2):(Go.Sort.flatK Zdr 2 ks.toArray)[j*2+i]! = (Zdr q)[i]! := by
 obtain⟨hj,rfl⟩:=List.getElem?_eq_some_iff.1 h;rw[Go.Sort.get_flatK _ _ _ _ (by simp;omega)];have e1:(j*2+i)/2=j:=by omega
 have e2:(j*2+i)%2=i:=by omega
 rw[e1,e2];congr 2;simp[hj]
theorem Zx6 (ks:List (Nat×Nat)):(ks.flatMap Zdr).length=ks.length*2:=Zbk Zdr 2 (fun _=>rfl) ks
theorem Ztc {oG:Own}{w:World}{g cap m:Nat}{ks:List (Nat×Nat)}(h:RowR oG w .slots 291 2 (.slice (some ⟨g,0,none⟩) m cap) ks.length (ks.flatMap Zdr)):Go.Sort.HoldsK Zdr 2 w g 0 ks.toArray:=by
 intro j hj;have g0:j<ks.length*2:=by simpa using hj
 refine⟨?_,by rw[Nat.zero_add];exact h.frozen j⟩;rw[Nat.zero_add,h.cell j (by rw[Zx6];exact g0)];have hd:j/2<ks.length:=by omega
 have hm:j%2<2:=by omega
 have e:j=j/2*2+j%2:=by omega
 obtain⟨q,hq⟩:∃ q,ks[j/2]?=some q:=⟨_,List.getElem?_eq_getElem hd⟩;have h1:=Zf6 Zdr 2 (fun _=>rfl) ks (j/2) (j%2) q hq hm;have h2:=Zkv ks hq (j%2) hm;rw[<- e] at h1 h2;rw[h1,h2];obtain h0|h0:j%2=0\/j%2=1:=by omega
 . rw[h0];rfl
 . rw[h0];rfl
theorem Zph {n:Nat}{w:World}{g cap:Nat}{ks:List (Nat×Nat)}(hg:n<=g)(h:Go.Sort.HoldsK Zdr 2 w g 0 ks.toArray):Zy9 n w (.slice (some ⟨g,0,none⟩) ks.length cap) ks:=by
 refine⟨_,_,rfl,fun j q hq=>⟨g,rfl,hg,?_,?_⟩⟩
 . have hj:=(List.getElem?_eq_some_iff.1 hq).1;have h1:=(h (j*2) (by simp;omega)).1;have h2:=Zkv ks hq 0 (by omega);rw[Nat.add_zero] at h2;rw[Nat.zero_add] at h1;rw[h1,h2];rfl
 . have hj:=(List.getElem?_eq_some_iff.1 hq).1;have h1:=(h (j*2+1) (by simp;omega)).1;have h2:=Zkv ks hq 1 (by omega);rw[Nat.zero_add] at h1;rw[h1,h2];rfl
theorem Zyw {f:Nat×Nat->Option Nat}{W w:World}{v:Value}{ks:List (Nat×Nat)}{oG:Own}{Bx t mb:Nat}{lm:List ((Nat×Nat)×Value)}(row:RowR oG w .slots 291 2 v ks.length (ks.flatMap Zdr))(hlen:ks.length<1000000000)(hlow:Below W.heap.size W w)
 (cB:W.cell? ⟨Bx,0,none⟩=some (.pointer (some ⟨t,0,none⟩))) (cT:W.cell? ⟨t,0,none⟩=some (.map (some mb))) (ge:∀ k r,oG k=some r->W.heap.size<=k) (lt:Zal oG w) (hmap:∀ W':World,W'.heap[mb]?=W.heap[mb]?->Zcw W' mb encE lm) (hget:∀ k,getL lm k=(f k).map (fun(id:Nat)=>Value.int .i64 id))
 (lB:Bx<W.heap.size) (lT:t<W.heap.size) (lM:mb<W.heap.size) :
 Calls prog 247 #[v,.func (.func 248) #[] #[.pointer (some ⟨Bx,0,none⟩)]] w fun e w'=>e=.returned (.tuple #[])/\∃ ks':List (Nat×Nat),ks'.Perm ks/\Zy9 W.heap.size w' v ks'/\Below W.heap.size W w':=by
 rcases row.ex with ⟨rfl,h0⟩|⟨g,cap,cur,rfl,g1,hg,_⟩
 .
  have hk:ks=[]:=List.eq_nil_of_length_eq_zero h0;subst hk;have g0:=AnyF.slices_SortFunc_none Tryz.sortKeys none 0 (.func (.func 248) #[] #[.pointer (some ⟨Bx,0,none⟩)]) w
  change Calls prog 247 _ _ _ at g0
  refine g0.mono ?_;rintro e w' ⟨rfl,rfl⟩;exact⟨rfl,[],List.Perm.refl _,⟨none,0,rfl,fun j q h=>by simp at h⟩,hlow⟩
 . have h1:=ge g _ g1;refine(Zq7 (f:=f) (Ztc row) (lt g _ g1) hlen ((hlow.cell (p:=⟨Bx,0,none⟩) lB).trans cB) ((hlow.cell (p:=⟨t,0,none⟩) lT).trans cT) (hmap w (hlow.block mb lM)) hget (by omega) (by omega) (by omega)).mono ?_;rintro e w' ⟨rfl,ks',hp,hh,hs,e1,e2,e3,hk⟩;have:=hp.length_eq;refine⟨rfl,ks',hp,?_,⟨e1.trans hlow.os,e2.trans hlow.tape,e3.trans hlow.output,Nat.le_trans hlow.size hs,fun b hb=>(hk b (Nat.lt_of_lt_of_le hb hlow.size) (by omega)).trans (hlow.block b hb)⟩⟩;rw[<- this];exact Zph h1 hh
theorem Zuk {F:Fence}{n:Nat}{P:Program}{c:Code}{Q:Exit->Act->World->Prop}{a:Act}{w:World}(R:World->Prop)(h:∃ A,c.wpIn F n P (fun e a' W'=>match e with|.normal=>a'=A/\R W'|_=>False) a w/\∀ W',R W'->Q .normal A W'):c.wpIn F n P Q a w:=by
 obtain⟨A,h1,h2⟩:=h;refine wpIn_mono h1 ?_;intro e a' W' h;cases e with
 | normal=>obtain⟨rfl,h3⟩:=h;exact h2 _ h3
 | _=>exact h.elim
structure YS (n₀:Nat)(W w2:World)(Bx t:Nat)(ak:Option Addr)(ks:List (Nat×Nat))(M M1:Nat->Prop)(wr:World):Prop where
 low:Below n₀ W wr
 box:wr.cell? ⟨Bx,0,none⟩=some (.pointer (some ⟨t,0,none⟩))
 keys:∀ j q,ks[j]?=some q->∃ g,ak=some ⟨g,0,none⟩/\W.heap.size<=g/\g<w2.heap.size/\wr.cell? ⟨g,j*2,none⟩=some (.int .i64 q.1)/\wr.cell? ⟨g,j*2+1,none⟩=some (.int .i64 q.2)
 nb:¬ M1 Bx
 sub:∀ k,M1 k->M k\/w2.heap.size<=k
 lt:∀ k,M k->k<W.heap.size
 ge:∀ k,M1 k->n₀<=k
 wr:Wr (fun k=>n₀<=k) w2 wr
theorem YS.go {n₀:Nat}{W w2:World}{Bx t:Nat}{ak:Option Addr}{ks:List (Nat×Nat)}{M M1 M2:Nat->Prop}{wr wx w':World}(h:YS n₀ W w2 Bx t ak ks M M1 wr)(hn:n₀<=W.heap.size)(hx:Below wr.heap.size wr wx)(hw:Wr M1 wx w')(hM:∀ k,M2 k->M1 k\/wx.heap.size<=k):YS n₀ W w2 Bx t ak ks M M2 w':=by
 have s0:=h.low.size;have s1:=h.wr.size;have s2:=hx.size;have keep:∀ {b k:Nat} {v:Value},wr.cell? ⟨b,k,none⟩=some v->¬ M1 b->w'.cell? ⟨b,k,none⟩=some v:=fun {b k v} hc hb=>by
  have g0:b<wr.heap.size:=Zaa hc;exact(World.cell?_of_block (w:=wx) (a:=⟨b,k,none⟩) (hw.keep b (by omega) hb)).trans ((hx.cell (p:=⟨b,k,none⟩) g0).trans hc)
 refine⟨h.low.trans ((hx.mono (by omega)).trans (hw.below h.ge (by omega))),keep h.box h.nb,fun j q hq=>?_,fun e=>?_,fun k hk=>?_,h.lt,fun k hk=>?_,h.wr.trans ((Wr.of_below hx (fun k=>n₀<=k)).trans hw (fun _ _ e=>e) (fun k _ hk=>h.ge k hk)) (fun _ _ e=>e) (fun _ _ e=>e)⟩
 .
  obtain⟨g,e,a1,a2,a3,a4⟩:=h.keys j q hq;have hg:¬ M1 g:=fun hg=>by
   rcases h.sub g hg with h1|h1
   . have:=h.lt g h1;omega
   . omega
  exact⟨g,e,a1,a2,keep a3 hg,keep a4 hg⟩
 .
  rcases hM Bx e with h1|h1
  . exact h.nb h1
  . have:=Zaa h.box;simp at this;omega
 .
  rcases hM k hk with h1|h1
  . exact h.sub k h1
  . right;omega
 .
  rcases hM k hk with h1|h1
  . exact h.ge k h1
  . omega
theorem Zl9 (n n₀ Bx t v:Nat){o:Own}{w0:World}{f:Nat×Nat->Option Nat}(ht:Zdk o w0 v t f)(hlt:Zal o w0)(h0:w0.heap.size<=n₀)(w:World)(hw:Below n₀ w0 w)(hn0:n₀<=w.heap.size)(hBn:n₀<=Bx)(hBp:w.cell? ⟨Bx,0,none⟩=some (.pointer (some ⟨t,0,none⟩)))
 (hcard:∀ l:List ((Nat×Nat)×Value),(l.map Prod.fst).Nodup->(∀ k,getL l k=(f k).map (fun(id:Nat)=>Value.int .i64 id))->l.length<1000000000) :
 Zy8 Fence.wide n 0 prog 246 #[.pointer (some ⟨Bx,0,none⟩)] (fun p:(Nat×Nat)×Nat=>#[encE p.1,.int .i64 p.2]) n₀ (· = Bx) (fun xs=>(xs.map Prod.fst).Nodup/\∀ k id,(k,id)∈xs↔f k=some id) w:=by
 intro l J M W gX gY gm h7 hY hJ;have k6:Bx<W.heap.size:=Nat.lt_of_lt_of_le (Zaa hBp) gm.size;have gc:Below n₀ w0 W:=hw.trans (gm.below (fun k h=>h.1) hn0);have cB:W.cell? ⟨Bx,0,none⟩=some (.pointer (some ⟨t,0,none⟩)):=(World.cell?_of_block (w:=w) (a:=⟨Bx,0,none⟩) (gm.keep Bx (Zaa hBp) (fun h=>h.2 rfl))).trans hBp;obtain⟨mb,lm,h1,h2,h3,h4⟩:=ht.ex;have hZ:t<w0.heap.size:=(Array.getElem?_eq_some_iff.1 h1).1;have hT:W.heap[t]?=some (.cells #[.map (some mb)] 267 (0,0)):=(gc.block t (by omega)).trans h1;have cT:=cell1 hT;have k3:mb<w0.heap.size:=h3.lt;obtain⟨es,clock,gO,gl,g9,gB⟩:=h3.ex;have hM:W.heap[mb]?=some (.map es clock):=(gc.block mb (by omega)).trans gO;have gL:=run_range_map (P:=prog) W 265 _ _ mb es clock underlying265 hM;obtain⟨W1,gn⟩:∃ W1,W1=W.alloc (.mapIter (some mb) clock #[] clock):=⟨_,rfl⟩;have gU:Below W.heap.size W W1:=by rw[gn];exact Zad _ _
 have gR:W1.heap[W.heap.size]?=some (.mapIter (some mb) clock #[] clock):=by rw[gn];exact heap_alloc_new _ _
 rw[<- gn] at gL;have gP:mb<W.heap.size:=by have:=gc.size;omega
 have gy:es.size<1000000000:=by
  have e1:=congrArg List.length gl;have e2:=hcard lm h3.nodup h4;simp at e1;omega
 have hu:=Hd gy;have gE:Hid (∀ W',W'.heap[mb]?=W.heap[mb]?->Zcw W' mb encE lm):=Hd fun W' hh=>⟨⟨es,clock,hh.trans hM,gl,g9,gB⟩,h3.nodup⟩
 have gd:=Hd h4;have hO:=Hd (hcard lm h3.nodup h4);have hK:=Hd h3.nodup;have HM:=Hd hM;have gI:=Hd g9;have hf:=Hd gB;have hd:=Hd gl;have hX:=Hd gU;have hc:=Hd gR;have HJ:=Hd hJ;have hL:=Hd (h7 Bx rfl);have HY:=Hd hY;have h9:=Hd gX;have ha:=Hd gY;obtain⟨r,hr⟩:∃ r,r=W.heap.size:=⟨_,rfl⟩;rw[<- hr] at gL hc;have HR:=Hd hr;clear hcard gy hJ hY gX gY gU gR gn hM g9 gB gl h1 h2 h3 h4 hT gO ht gm h7 hw hr;refine callsIn_of_wp func246 rfl trivial ?_ rfl;refine wpIn_wide.2 ?_;simp only[ntmps246,List.size_toArray,List.length_cons,List.length_nil,Nat.reduceAdd,Nat.reduceSub,Array.replicate_succ,Array.replicate_zero,List.push_toArray,List.append_toArray,List.nil_append,List.cons_append];go_wp2_with fail
 go_loopg [3] (leftOf es #[]).size (fun gk s3 wr=>∃ seen ks sl oG,KeyS W mb r clock es seen ks sl s3 oG wr/\gk=(leftOf es seen).size)
 case atStart=>exact⟨#[],[],[],fun _=>none,⟨hX.out,hc.out,Zkm.start es clock,RowR.nil _ _ _ _ _,fun k q h=>(by cases h),fun k q h=>(by cases h),rfl,by have h:(leftOf es #[]).size<=es.size:=(by unfold leftOf;exact Array.size_filter_le);simpa using h⟩,rfl⟩
 case round =>
  obtain⟨seen,ks,sl,oG,hS,gx⟩:=hrel;have gp:=(hS.low.block mb gP).trans HM.out;have g8:ks.length<1000000000:=by have:=hS.cnt;have:=hu.out;omega
  rcases run_next_at (P:=prog) wr 0 r mb clock clock seen es clock hS.it gp gI.out (Nat.le_refl _) with ⟨hz,g4⟩|⟨e,he,w1,g6,g4⟩
  .
   have gi:=hS.came.keysOf (w:=W) (b:=mb) hf.out hz hd.out;have gh:=Zyw hS.row g8 (hS.low.trans (Below.refl _ _)) cB cT (fun k q h=>(hS.ge k q h).2) hS.lt gE.out gd.out (Zaa cB) (Zaa cT) gP;have gH:=Hd gi;have gG:=Hd gh;clear hS hz gi gh;go_wp2_with fail;refine gG.out.mono ?_;rintro x w2 ⟨rfl,ks',hp,hv,g5⟩;obtain⟨ak,ck,rfl,ga⟩:=hv;have HP:=Hd (hp.trans gH.out);have hU:=Hd ga;have HB2:=Hd g5;have h6:J [] M w2:=ha.out _ _ _ _ HJ.out ⟨g5.os,g5.tape,g5.output,g5.size,fun k hk _=>g5.block k hk⟩;have hQ:=Hd h6;clear hp ga g5 h6 g4 gp g8 gx;go_wp2_with fail;refine(wpIn_wide (n:=n)).1 ?_;obtain⟨xs,gv⟩:∃ xs,xs=ks'.map (fun k=>(k,(f k).getD 0)):=⟨_,rfl⟩;have gj:=Zvn HP.out hK.out gd.out gv;have k4:ks'.length<1000000000:=by have h1:=HP.out.length_eq;have h2:=hO.out;simp at h1;omega
   have h8:=Hd gv;have gu:=Hd gj;have gJ:YS n₀ W w2 Bx t ak ks' M M w2:=by
    refine⟨HB2.out.mono (by omega),(HB2.out.cell (p:=⟨Bx,0,none⟩) (Zaa cB)).trans cB,fun j q hq=>?_,hL.out,fun k h=>.inl h,fun k hk=>(h9.out _ _ _ HJ.out k hk).2,fun k hk=>(h9.out _ _ _ HJ.out k hk).1,Wr.refl _ _⟩;obtain⟨g,a1,a2,a3,a4⟩:=hU.out j q hq;exact⟨g,a1,a2,Zaa a3,a3,a4⟩
   have hD:=Hd gJ;have k0:prog.follows .mixedOrders=true:=by kernel_rfl
   clear gv gj gJ
   gi_loopw [27] (fun i wr=>∃ (k:Nat) (M1:Nat->Prop),k<=ks'.length/\i=.int .i64 k/\J (xs.take k) M1 wr/\YS n₀ W w2 Bx t ak ks' M M1 wr) (fun i _=>ks'.length-(intOf i).toNat)
   case atStart=>exact⟨0,M,Nat.zero_le _,rfl,hQ.out,hD.out⟩
   case round =>
    obtain⟨k,M1,hk,rfl,gr,hS⟩:=hrel
    by_cases gw:k<ks'.length
    .
     obtain⟨q,hq⟩:∃ q,ks'[k]?=some q:=⟨_,List.getElem?_eq_getElem gw⟩;obtain⟨g,hC,hB,hA,e0,e1⟩:=hS.keys k q hq;subst hC;have k5:(k:Int)<ks'.length:=by omega
     have cB3:=hS.box;have cT3:=(hS.low.cell (p:=⟨t,0,none⟩) (by show t<n₀;omega)).trans cT;obtain⟨w3,g0⟩:∃ w3,w3=wr.alloc (.cells #[.int .i64 q.1,.int .i64 q.2] 291):=⟨_,rfl⟩;have g2:Below wr.heap.size wr w3:=by rw[g0];exact Zad _ _
     have h5:J (xs.take k) M1 w3.drew:=ha.out _ _ _ _ gr (by
      have:=(Wr.of_below g2 (fun k=>n₀<=k/\¬ M1 k)).drew;exact this)
     have g7:=Zyx (G:=fun xs:List ((Nat×Nat)×Nat)=>(xs.map Prod.fst).Nodup/\∀ k id,(k,id)∈xs↔f k=some id) gu.out (k:=k) (x:=(q,(f q).getD 0)) (by rw[h8.out,List.getElem?_map,hq];rfl);obtain⟨suf,g7,gg⟩:=g7;obtain⟨fn,tmps,assign,body,hy,gV⟩:=HY.out _ (q,(f q).getD 0) M1 w3.drew h5 ⟨suf,g7⟩;have hj:mb<n₀:=by omega
     have gF:=Ybm (gE.out w3.drew ((g2.block mb (by have:=hS.low.size;omega)).trans (hS.low.block mb hj))) gd.out q;have gT:w3.heap[wr.heap.size]?=some (.cells #[.int .i64 q.1,.int .i64 q.2] 291 (0,0)):=by rw[g0];exact heap_alloc_new _ _
     obtain⟨x0,x1,_⟩:=cells2 gT;have b3:=(g2.cell (p:=⟨Bx,0,none⟩) (Zaa cB3)).trans cB3;have t3:=(g2.cell (p:=⟨t,0,none⟩) (Zaa cT3)).trans cT3;simp only[encE] at hy;have hH:=Hd gV;have HS:=Hd hS;have hg:=Hd g2;have hE:=Hd gg;have gD:Hid (_=w3):=Hd g0.symm;obtain⟨b6,gC⟩:∃ b6,b6=wr.heap.size:=⟨_,rfl⟩;have hW:Hid (_=b6):=Hd gC.symm;rw[<- gC] at x0 x1;clear gT hS g2 h5 gr g7 gV gg g0 gC gw hB hA hq cB3 cT3
     gi_wp2
     rw[gD.out,hW.out];refine Zuk (fun W'=>∃ M3,J (xs.take k++[(q,(f q).getD 0)]) M3 W'/\Wr M1 w3.drew W'/\∀ k,M3 k->M1 k\/w3.drew.heap.size<=k) ?_;apply Exists.intro;refine⟨?_,?_⟩
     .
      gi_region_with_o (refine⟨fun h=>(by cases h),hH.out.mono ?_⟩;rintro e W4 ⟨rfl,M3,gt,gf,gq⟩)
      all_goals exact⟨rfl,M3,gt,gf,gq⟩
     .
      rintro W4 ⟨M3,gt,gf,gq⟩;have hP:=Hd gt;have hG:=Hd (HS.out.go (by omega) (hg.out.trans ((Zaf w3 1).mono hg.out.size)) gf gq);clear gt gf gq x0 x1 b3 t3 e0 e1 gF hy
      gi_wp2
      go_roundw
      case rel=>exact⟨k+1,M3,by omega,by go_num,by rw[hE.out];exact hP.out,hG.out⟩
      case measure=>simp[intOf];omega
    .
     obtain rfl:k=ks'.length:=by omega
     have hb:=Hd gr;have HS:=Hd hS;clear gr hS
     gi_wp2
     go_end0;have ht:xs.take ks'.length=xs:=List.take_of_length_le (by rw[h8.out];simp);rw[ht] at hb;exact⟨⟨_,rfl⟩,xs,M1,gu.out,hb.out,(Wr.of_below HB2.out (fun k=>n₀<=k)).trans HS.out.wr (fun _ _ e=>e) (fun _ _ e=>e),fun k hk=>(HS.out.sub k hk).imp id fun h=>Nat.le_trans HB2.out.size h⟩
  .
   have gA:=(mem_left he).1;obtain⟨q,hq⟩:∃ q,e.key=encE q:=by
    have h1:(e.key,e.val)∈es.toList.map (fun e=>(e.key,e.val)):=List.mem_map.2 ⟨e,gA,rfl⟩;rw[hd.out] at h1;obtain⟨p,_,h2⟩:=List.mem_map.1 h1;exact⟨p.1,(Prod.mk.inj h2).1.symm⟩
   obtain⟨w2,g3⟩:∃ w2,w2=setBlock w1 r (.mapIter (some mb) clock (seen.push e.born) clock):=⟨_,rfl⟩;have hi:=g3;obtain⟨w3,g0⟩:∃ w3,w3=w2.alloc (.cells #[.int .i64 q.1,.int .i64 q.2] 291):=⟨_,rfl⟩;have g2:Below w2.heap.size w2 w3:=by rw[g0];exact Zad _ _
   obtain⟨row3,lt3⟩:=hS.row3 g6 g3 g2;have z2:w2.heap.size=wr.heap.size:=by rw[g3];rcases g6 with rfl|rfl<;>simp[setBlock]
   have gK:r<wr.heap.size:=(Array.getElem?_eq_some_iff.1 hS.it).1;have gN:mb≠r:=by have:=HR.out;omega
   have gZ:w2.heap[mb]?=some (.map es clock):=by rw[g3];rcases g6 with rfl|rfl<;>simp[setBlock,Array.getElem?_setIfInBounds,Ne.symm gN]<;>exact gp
   have i2:w2.heap[r]?=some (.mapIter (some mb) clock (seen.push e.born) clock):=by rw[g3];rcases g6 with rfl|rfl<;>simp[setBlock,gK]
   have gz:=run_entry_at (P:=prog) w2 r mb clock seen es clock e i2 gZ gA hf.out;have hI:Hid (∀ (g1 k1:Nat) (w4:World) (o1:Own),RowR o1 w4 .slots 291 2 (.slice (some ⟨g1,0,none⟩) (ks.length+1) k1) (ks.length+1) (ks.flatMap Zdr++Zdr q)->Chg (· = .slots) oG o1 w3 w4->Zal o1 w4->KeyS W mb r clock es (seen.push e.born) (ks++[q]) (sl++[e]) (.slice (some ⟨g1,0,none⟩) (ks.length+1) k1) o1 w4) :=
    Hd fun g1 k1 w4 o1 a b c=>hS.next (by have:=HR.out;omega) he hq g6 g3 g2 a b c
   have hF:=Hd (left_shrinks es seen e he);have cB2:w3.cell? ⟨w2.heap.size,0,none⟩=some (.int .i64 q.1):=by rw[g0,cell_of_row _ _ 0 _ _ _ (heap_alloc_new w2 _)];rfl
   have cB3:w3.cell? ⟨w2.heap.size,1,none⟩=some (.int .i64 q.2):=by rw[g0,cell_of_row _ _ 1 _ _ _ (heap_alloc_new w2 _)];rfl
   have hR:=Hd gx;have ho:=Hd g8;have hm:=Hd row3;have hn:=Hd lt3;rw[hq] at g4 gz;rw[<- g3] at g4;unfold encE at g4 gz;have gD:Hid (_=w3):=Hd g0.symm;clear hS he gA hq g6 g3 hi g0 g2 row3 lt3 z2 gK gN gZ i2 gp gx g8;go_upto_region 5 with fail;rw[gD.out]
   go_wp2_with (at_builtin
                refine Zdv (wr:=w3) 307 291 2 16 _ underlying307 Yao rfl (by decide) rfl _ _ rfl rfl rfl rfl rfl rfl (by simp[Value.oneCell']) hm.out hn.out ho.out (by decide) ?_;intro g1 k1 w4 o1 gM gS gQ;have hN:=Hd (hI.out g1 k1 w4 o1 gM gS gQ);clear gM gS gQ)
   go_roundg (leftOf es (seen.push e.born)).size
   case rel=>exact⟨_,_,_,_,hN.out,rfl⟩
   case measure=>have h1:=hF.out;have h2:=hR.out;omega
open Go.RowKit
theorem Zis:∀ (n:Nat) (l:List Nat),l.Nodup->(∀ x∈l,x<n)->l.length<=n
 | 0,l,_,h=>by
   cases l with
   | nil=>simp
   | cons a l=>have:=h a (by simp);omega
 | n+1,l,hn,h=>by
   by_cases hm:n∈l
   .
    have h1:=Zis n (l.erase n) (hn.erase n) (fun x hx=>by
     have h2:=h x (List.mem_of_mem_erase hx);have h3:x≠n:=fun e=>by subst e;exact(List.Nodup.not_mem_erase hn) hx
     omega)
    rw[List.length_erase_of_mem hm] at h1;omega
   .
    have h1:=Zis n l hn (fun x hx=>by
     have h2:=h x hx;have h3:x≠n:=fun e=>by subst e;exact hm hx
     omega)
    omega
theorem Zyy {d:Zag}{x:Nat}(ht:∀ lo hi id,d.tab x (lo,hi)=some id->Zab d id=some ⟨x,lo,hi⟩){n:Nat}(hlt:∀ i b,Zab d i=some b->i<n)(hn:n<1000000000)(l:List ((Nat×Nat)×Value))(hnd:(l.map Prod.fst).Nodup)(hf:∀ k,getL l k=(d.tab x k).map (fun(id:Nat)=>Value.int .i64 id)):l.length<1000000000:=by
 have hk:∀ k∈l.map Prod.fst,∃ id,d.tab x k=some id:=fun k hk=>by
  cases h:d.tab x k with
  | some id=>exact⟨id,rfl⟩
  | none =>
    have h1:=Zez (l:=l) (k:=k);rw[hf k,h] at h1;obtain⟨p,hp,rfl⟩:=List.mem_map.1 hk;exact absurd rfl (h1.1 rfl p hp)
 have g0:(((l.map Prod.fst)).map fun k=>(d.tab x k).getD 0).Nodup:=by
  refine List.pairwise_map.2 (hnd.imp_of_mem ?_);intro a b ha hb g2 e;obtain⟨i,hi⟩:=hk a ha;obtain⟨j,hj⟩:=hk b hb;rw[hi,hj] at e;simp only[Option.getD_some] at e;subst e;have e1:=ht a.1 a.2 _ hi;have e2:=ht b.1 b.2 _ hj;rw[e1] at e2;simp only[Option.some.injEq,BN.mk.injEq,true_and] at e2;exact g2 (Prod.ext e2.1 e2.2)
 have:=Zis n _ g0 (fun i hi=>by
  obtain⟨k,g1,rfl⟩:=List.mem_map.1 hi;obtain⟨id,h1⟩:=hk k g1;rw[h1];exact hlt _ _ (ht k.1 k.2 _ h1))
 simp at this;omega
end Go.Proofs.YtkbegdkpboklpaaGreat
