/- The walk of a law: EndsW. -/
import Derived.Test.YtljjokfhdkegbaaGreatH7
set_option linter.unusedSimpArgs false
set_option linter.unusedVariables false
set_option linter.unusedSectionVars false
set_option linter.unnecessarySimpa false
set_option maxRecDepth 100000
set_option maxHeartbeats 8000000
namespace Go.Proofs.YtljjokfhdkegbaaGreat
open Go.Proofs.Tryz
open Go.RowKit
theorem Zri (w:World)(v:Value):Calls prog 40 #[.pointer none,v] w fun x w'=>x=.returned (.tuple #[.int .i64 0,.int .i64 0,.int .i64 5])/\w=w':=by
 have HM:=Hd (Zvv w 0 v)
 go_enter func40,ntmps40
 go_wp2_with fail;refine HM.out.mono ?_;rintro x w' ⟨rfl,rfl⟩;go_wp2_with fail;refine bodyPost_ret (results_tmp3 rfl _ _ _) rfl ?_;exact⟨rfl,rfl⟩
section
variable {K:Law}{n room:Nat}{Od:List Nat->Prop}{w0 w:World}{mb:Nat}{fs:List (Int×BF)}{nx:Int}{o:Own}{m:ManD}{V:Nat->BF}
def NilP (fs:List (Int×BF))(k e:Int):Prop:=(e=8/\∀ p∈fs,p.1≠k)\/((∃ F,(k,F)∈fs)/\e=1)
theorem NilP.ne {k e:Int}(h:NilP fs k e):(e != 0)=true:=by rcases h with ⟨rfl,_⟩|⟨_,rfl⟩<;>rfl
theorem Zlv (h:SatE K n Od room w0 mb fs nx w o m V){k e:Int}(he:NilP fs k e):Calls prog 113 #[.pointer (some ⟨mb,0,none⟩),.int .i64 k,.nilFunc] w fun x w'=>x=.returned (.int .i64 e)/\w=w' :=
 Zlu (nil:=true) (g:=0) (lop:=#[]) h (he.imp (fun h=>h) fun h=>⟨h.1,.inl ⟨rfl,h.2⟩⟩)
theorem Zto (h:SatE K n Od room w0 mb fs nx w o m V)(hb:B2 fs):Calls prog 40 #[.pointer (some ⟨mb,0,none⟩),.nilFunc] w fun x w'=>x=.returned (.tuple #[.int .i64 0,.int .i64 0,.int .i64 1])/\w=w':=by
 have HM:=Hd (Zlv h (k:=0) (e:=1) (.inr ⟨⟨_,hb.zero⟩,rfl⟩));clear h hb
 go_enter func40,ntmps40
 go_wp2_with fail;refine HM.out.mono ?_;rintro x w' ⟨rfl,rfl⟩;go_wp2_with fail;refine bodyPost_ret (results_tmp3 rfl _ _ _) rfl ?_;exact⟨rfl,rfl⟩
theorem Zie (h:SatE K n Od room w0 mb fs nx w o m V){k e:Int}(he:NilP fs k e):Calls prog 41 #[.pointer (some ⟨mb,0,none⟩),.int .i64 k,.nilFunc] w fun x w'=>x=.returned (.tuple #[.int .i64 0,.int .i64 0,.int .i64 e])/\w=w':=by
 have HM:=Hd (Zlv h he);have g0:=he.ne;clear h he
 go_enter func41,ntmps41
 go_wp2_with fail;refine HM.out.mono ?_;rintro x w' ⟨rfl,rfl⟩;go_wp2_with fail;refine bodyPost_ret (results_tmp3 rfl _ _ _) rfl ?_;exact⟨rfl,rfl⟩
theorem Zon (h:SatE K n Od room w0 mb fs nx w o m V){k e:Int}(he:NilP fs k e):Calls prog 42 #[.pointer (some ⟨mb,0,none⟩),.int .i64 k,.nilFunc] w fun x w'=>x=.returned (.tuple #[.int .i64 0,.int .i64 0,.int .i64 e])/\Below w.heap.size w w':=by
 obtain⟨w2,g0⟩:∃ w2,w2=w.alloc (.cells #[.nilFunc] 55):=⟨_,rfl⟩;have g1:Hid (_=w2):=Hd g0.symm;have hb:=Zaf w (.cells #[.nilFunc] 55);rw[<- g0] at hb;have c0:w2.cell? ⟨w.heap.size,0,none⟩=some .nilFunc:=by rw[g0,cell_of_row _ _ 0 _ _ _ (heap_alloc_new w _)];rfl
 have HM:=Hd (Zlv (h.below hb) he);have HB:=Hd hb;have g2:=he.ne;clear h he g0 hb
 go_enter func42,ntmps42
 go_upto_region 1 with fail;rw[g1.out];go_wp2_with fail;refine HM.out.mono ?_;rintro x w' ⟨rfl,rfl⟩;go_wp2_with fail;refine bodyPost_ret (results_tmp3 rfl _ _ _) rfl ?_;exact⟨rfl,HB.out⟩
theorem Zqb (h:SatE K n Od room w0 mb fs nx w o m V){k e:Int}(he:NilP fs k e)(most:Int):Calls prog 43 #[.pointer (some ⟨mb,0,none⟩),.int .i64 k,.nilFunc,.int .i64 most] w fun x w'=>x=.returned (.tuple #[.slice none 0 0,.bool false,.int .i64 e])/\Below w.heap.size w w':=by
 obtain⟨s,hs⟩:∃ s,s=w.heap.size:=⟨_,rfl⟩;obtain⟨w1,g4⟩:∃ w1,w1=w.alloc (.cells #[.pointer (some ⟨mb,0,none⟩)] 41):=⟨_,rfl⟩;obtain⟨w2,g3⟩:∃ w2,w2=w1.alloc (.cells #[.slice none 0 0] 23):=⟨_,rfl⟩;obtain⟨w3,g2⟩:∃ w3,w3=w2.alloc (.cells #[.bool false] 4):=⟨_,rfl⟩;obtain⟨w4,g1⟩:∃ w4,w4=w3.alloc (.cells #[.int .i64 0] 25):=⟨_,rfl⟩;have g5:Hid (_=w4):=Hd g1.symm;rw[g2,g3,g4] at g5;have z1:w1.heap.size=s+1:=by rw[g4,hs];simp
 have z2:w2.heap.size=s+2:=by rw[g3];simp[z1]
 have z3:w3.heap.size=s+3:=by rw[g2];simp[z2]
 have z4:w4.heap.size=s+4:=by rw[g1];simp[z3]
 have b1:Below s w w1:=by rw[g4,hs];exact Zaf _ _
 have b2:Below (s+1) w1 w2:=by rw[g3,<- z1];exact Zaf _ _
 have b3:Below (s+2) w2 w3:=by rw[g2,<- z2];exact Zaf _ _
 have b4:Below (s+3) w3 w4:=by rw[g1,<- z3];exact Zaf _ _
 have hb:Below s w w4:=b1.trans ((b2.mono (by omega)).trans ((b3.mono (by omega)).trans (b4.mono (by omega))));have x1:w4.heap[s]?=some (.cells #[.pointer (some ⟨mb,0,none⟩)] 41 (0,0)):=by rw[b4.block _ (by omega),b3.block _ (by omega),b2.block _ (by omega),g4,hs];exact heap_alloc_new _ _
 have x2:w4.heap[s+1]?=some (.cells #[.slice none 0 0] 23 (0,0)):=by rw[b4.block _ (by omega),b3.block _ (by omega),g3,<- z1];exact heap_alloc_new _ _
 have x3:w4.heap[s+1+1]?=some (.cells #[.bool false] 4 (0,0)):=by rw[b4.block _ (by omega),g2,<- z2];exact heap_alloc_new _ _
 have x4:w4.heap[s+1+1+1]?=some (.cells #[.int .i64 0] 25 (0,0)):=by rw[g1,show s+1+1+1=s+3 from rfl,<- z3];exact heap_alloc_new _ _
 have HM:=Hd (Zlv (h.below (hs ▸ hb)) he);have g7:=he.ne;have HB:=Hd hb;have c1:w4.cell? ⟨s,0,none⟩=some (.pointer (some ⟨mb,0,none⟩)):=by rw[cell_of_row _ _ 0 _ _ _ x1];rfl
 have c2:w4.cell? ⟨s+1,0,none⟩=some (.slice none 0 0):=by rw[cell_of_row _ _ 0 _ _ _ x2];rfl
 have c3:w4.cell? ⟨s+1+1,0,none⟩=some (.bool false):=by rw[cell_of_row _ _ 0 _ _ _ x3];rfl
 have c4:w4.cell? ⟨s+1+1+1,0,none⟩=some (.int .i64 0):=by rw[cell_of_row _ _ 0 _ _ _ x4];rfl
 have HS:=Hd hs;clear g4 g3 g2 g1 b1 b2 b3 b4 z1 z2 z3 h he hb;have f2:w4.frozen? ⟨s+1,0,none⟩=false:=by simp[World.frozen?,x2]
 have f3:w4.frozen? ⟨s+1+1,0,none⟩=false:=by simp[World.frozen?,x3]
 have f4:w4.frozen? ⟨s+1+1+1,0,none⟩=false:=by simp[World.frozen?,x4]
 have X2:=Hd x2;have X3:=Hd x3;have X4:=Hd x4;clear x1 x2 x3 x4;rw[<- hs];clear hs
 go_enter_defers func43,ntmps43
 go_upto_region 1 with fail;rw[<- HS.out,g5.out];go_wp2_with fail;refine HM.out.mono ?_;rintro x w' ⟨rfl,rfl⟩;go_wp2_with fail;obtain⟨w5,g0⟩:∃ w,w=((w4.setCell ⟨s+1,0,none⟩ (.slice none 0 0)).setCell ⟨s+1+1,0,none⟩ (.bool false)).setCell ⟨s+1+1+1,0,none⟩ (.int .i64 e):=⟨_,rfl⟩;have q1:w5.cell? ⟨s+1,0,none⟩=some (.slice none 0 0):=by
  rw[g0];exact cell1 ((Zad (by show _≠_;dsimp only;omega) _).trans ((Zad (by show _≠_;dsimp only;omega) _).trans (Zag X2.out _)))
 have q2:w5.cell? ⟨s+1+1,0,none⟩=some (.bool false):=by
  rw[g0];exact cell1 ((Zad (by show _≠_;dsimp only;omega) _).trans (Zag ((Zad (by show _≠_;dsimp only;omega) _).trans X3.out) _))
 have q3:w5.cell? ⟨s+1+1+1,0,none⟩=some (.int .i64 e):=by
  rw[g0];exact cell1 (Zag ((Zad (by show _≠_;dsimp only;omega) _).trans ((Zad (by show _≠_;dsimp only;omega) _).trans X4.out)) _)
 have g6:Hid (Below s w w5):=Hd (by rw[g0];exact((HB.out.setCell (by dsimp only;omega) _).setCell (by dsimp only;omega) _).setCell (by dsimp only;omega) _);rw[<- g0];clear g0 c1 c2 c3 c4 f2 f3 f4;simp[bodyPostD,Leaves,settle,results,Tryz.results43,go_sem,q1,q2,q3];exact g6.out
end
open Go.RowKit
theorem Zm9 (args:Array Value)(w:World):(callFunc 38 args).run prog w=.ok (.enter 38 args) w:=enters_of func38 (by kernel_rfl) rfl args w
def EnB (bn ba bm mb:Nat)(after:Int)(j:Nat):World->Own->Prop:=fun W o=>BoxB bn (.int .i64 (j:Nat)) 3 W o/\BoxA ba 0 (.int .i64 after) W o/\BoxA bm 0 (.pointer (some ⟨mb,0,none⟩)) W o
def erF (after:Int)(j:Nat):Int:=if after<(j:Int)+1 then 20 else 0
section
variable {K:Law}{n room L:Nat}{w0 wb W W':World}{mb bn ba bm:Nat}{fs:List (Int×BF)}{nx:Int}{o0:Own}{ws0:List Ev}{C D:Nat->Prop}{B B':World->Own->Prop}{after:Int}
theorem BoxA.wr {D:Nat->Prop}{b k:Nat}{v:Value}{W W':World}{o:Own}(h:BoxA b k v W o)(hw:Wr D W W')(hn:¬ D b):BoxA b k v W' o:=⟨(World.cell?_of_block (w:=W) (hw.keep _ (Zab h.1) hn)).trans h.1,h.2⟩
theorem EnB.keepB {j:Nat}:Zdy (EnB bn ba bm mb after j):=fun _ _ _ _ h hc=>⟨BoxB.keepC (fun q=>q) _ _ _ _ h.1 hc,BoxA.keep _ _ _ _ h.2.1 hc,BoxA.keep _ _ _ _ h.2.2 hc⟩
theorem FxS.wrC (h:FxS K n room w0 mb ws0 C o0 wb B fs nx W)(hw:Wr D W W')(hDC:∀ k,D k->C k\/wb.heap.size<=k)(hs0:∀ k,D k->w0.heap.size<=k)(hno:∀ o,B W o->∀ k,D k->o k=none)(hB:∀ o,Zaj o W->B W o->B' W' o):FxS K n room w0 mb ws0 C o0 wb B' fs nx W':=by
 obtain⟨o,m,V,h1,h2,h3,h4⟩:=h;exact⟨o,m,V,h1.trans (ChgX.of_wr (C:=D) hw o (fun _ _ q=>q)) (fun k hk q=>(hDC k q).resolve_right (by omega)),h2,h3.other hw (fun k _ q=>⟨hs0 k q,hno o h4 k q⟩),hB o h3.lt h4⟩
theorem FxS.setN {j i:Nat}(h:FxS K n room w0 mb ws0 C o0 wb (EnB bn ba bm mb after j) fs nx W)(hC:C bn\/wb.heap.size<=bn)(h0:w0.heap.size<=bn)(na:ba≠bn)(nm:bm≠bn):FxS K n room w0 mb ws0 C o0 wb (EnB bn ba bm mb after i) fs nx (W.setCell ⟨bn,0,none⟩ (.int .i64 (i:Nat))) :=
 h.wrC (Zbk _) (fun k q=>by subst q;exact hC) (fun k q=>by subst q;exact h0) (fun o hb k q=>by subst q;exact hb.1.2) fun o _ hb =>
  ⟨hb.1.set,hb.2.1.wr (Zbk _) na,hb.2.2.wr (Zbk _) nm⟩
theorem Zy9 (hK:Zbu K)(h0:w0.heap.size<=bn)(na:ba≠bn)(nm:bm≠bn) :
 FunC K n room w0 mb ws0 L (· = bn) (EnB bn ba bm mb after) [] 38 #[.pointer (some ⟨bn,0,none⟩),.pointer (some ⟨ba,0,none⟩),.pointer (some ⟨bm,0,none⟩)] notF (erF after) 1:=by
 refine⟨Zm9,fun _=>EnB.keepB,by omega,fun j hj o0 wb W fs nx h F g6 hb g9 hk hn hl=>?_⟩;have h1:FxS K n room w0 mb ws0 (· = bn) o0 wb (EnB bn ba bm mb after (j+1)) fs nx (W.setCell ⟨bn,0,none⟩ (.int .i64 ((j+1:Nat):Int))):=g6.setN (.inl rfl) h0 na nm;rw[show (((j+1:Nat):Nat):Int)=(j:Int)+1 by simp] at h1;obtain⟨w1,g0⟩:∃ w1,w1=W.setCell ⟨bn,0,none⟩ (.int .i64 ((j:Int)+1)):=⟨_,rfl⟩;have HW1:Hid (_=w1):=Hd g0.symm;rw[<- g0] at h1;have g5:=Hd (h1.not hK EnB.keepB (by omega) hk);have H1:=Hd h1;obtain⟨_,_,_,_,_,_,e1,e2,e3⟩:=g6;obtain⟨_,_,_,_,_,_,g1,g2,g3⟩:=h1;have c1:=e1.cell;have f1:=e1.fr;have d1:w1.cell? ⟨bn,0,none⟩=some (.int .i64 ((j:Int)+1)):=by have:=g1.cell;rw[this];simp
 have d2:=g2.1;have d3:=g3.1;obtain⟨PP,g4⟩:∃ PP:Ending->World->Prop,PP=fun e w'=>∃ p nx',e=.returned (.tuple #[.int .i64 p,.int .i64 (erF after j)])/\nx<=nx'/\nx'<=nx+1 /\
  (erF after j=0->FxS K n room w0 mb ws0 (· = bn) o0 wb (EnB bn ba bm mb after (j+1)) (fs++[(p,notF F)]) nx' w')/\(erF after j≠0->FxS K n room w0 mb ws0 (· = bn) o0 wb (EnB bn ba bm mb after (j+1)) fs nx' w'):=⟨_,rfl⟩
 have g7:=Hd g4
 show Calls _ _ _ _ _
 rw[<- g4];clear g4 hb g9 hk hn hl hK h0 na nm e1 e2 e3 g1 g2 g3 g0
 show Calls _ _ #[_,_,_,_] _ _
 go_enter func38,ntmps38
 go_upto_region 2 with fail;rw[HW1.out];clear c1 f1
 by_cases g8:after<(j:Int)+1
 .
  have HF:Hid (PP (.returned (.tuple #[.int .i64 0,.int .i64 20])) w1):=Hd (by
   have he:erF after j=20:=if_pos g8;rw[g7.out];exact⟨0,nx,by rw[he],by omega,by omega,fun e=>by rw[he] at e;simp at e,fun _=>H1.out⟩)
  clear g5 H1;go_wp2_with fail;exact HF.out
 .
  go_wp2_with fail;refine g5.out.mono ?_;rintro x w2 ⟨rfl,h2⟩
  have HF:Hid (PP (.returned (.tuple #[.int .i64 nx,.int .i64 0])) w2):=Hd (by
   have he:erF after j=0:=if_neg (by omega);rw[g7.out];exact⟨nx,nx+1,by rw[he],by omega,by omega,fun _=>h2,fun e=>(e he).elim⟩)
  clear g5 H1 h2 d1 d2 d3;go_wp2_with fail;exact HF.out
theorem FxS.lawT {Od:List Nat->Prop}{Wt:List Ev->Int->Prop}{hl hx fs':List (Int×BF)}{nx':Int}{w:World}{o:Own}{m:ManD}{V:Nat->BF}{vl vx:Value}(hL:LawT K n Od room w0 mb fs nx Wt hl hx w o m V vl vx)(h:FxS K n room w0 mb ws0 C o w B fs' nx' W)(hC:∀ k,C k->w.heap.size<=k)(hb:B2 fs'):∃ o m V,LawT K n (fun _=>True) room w0 mb fs' nx' (SufW ws0) hl hx W o m V vl vx:=by
 obtain⟨o',m',V',h1,h2,h3,_⟩:=h;exact⟨o',m',V',hL.go h3 hb h2 ((ChgX.of_below (Below.refl _ _) o NoB).trans h1 fun k hk q=>by have:=hC k q;omega)⟩
theorem Zyp (F:BF):notF F≠F:=fun e=>by
 have h1:=congrFun e (fun _=>true);have h2:notF F (fun _=>true) = !F (fun _=>true):=rfl;rw[h2] at h1;cases hF:F (fun _=>true)<;>rw[hF] at h1<;>cases h1
theorem Zpu {o0:Own}{wb:World}{F0:BF}{fs:List (Int×BF)}{nx:Int}{x:Ending}{w':World}{B:Nat->World->Own->Prop}(ha:after<=20)(h:Zj7 K n room w0 mb ws0 C o0 wb B notF (erF after) 1 0 F0 fs nx x w') :
 x=.returned (.tuple #[.int .i64 0,.int .i64 0,.int .i64 20])/\∃ s nx',nx<=nx'/\nx'<=nx+5000/\FxS K n room w0 mb ws0 C o0 wb (B s) fs nx' w':=by
 obtain⟨s,nx',hs,h1,h2,⟨p,k,rfl,rfl,he,_⟩|⟨k,rfl,rfl,g0,_,_,g1⟩|⟨rfl,_,_,he,_⟩⟩:=h
 . exact(Zyp _ he.2).elim
 .
  have he:erF after (0+k)=20:=by
   unfold erF at g0 ⊢;split
   . rfl
   . rename_i h;rw[if_neg h] at g0;exact(g0 rfl).elim
  rw[he];refine⟨rfl,_,nx',h1,?_,g1⟩;have:(((k+1:Nat):Nat):Int)*1=(k:Int)+1:=by simp
  omega
 . have:=he 20 (by omega);unfold erF at this;rw[if_pos (by omega)] at this;cases this
end
open Go.RowKit
theorem Zza (q:AskD)(ao ae ap:Option Addr)(co ce cp:Nat)(no after:Int)(w:World)(h:AskAt w q ao ae ap) :
 Calls prog 6 #[askV q ao ae ap co ce cp,.int .i64 no,.int .i64 after] w fun y w'=>y=.returned (.bool true)/\Below w.heap.size w w':=by
 have gl:Hid (∀ W,Below w.heap.size w W->∀ u,u=askV q ao ae ap co ce cp->Calls prog 26 #[u] W fun y w'=>∃ b,y=.returned (.bool b)/\(b=true->Zkn q)/\Below W.heap.size W w'):=Hd fun W hb u hu=>by subst hu;exact Zup q ao ae ap co ce cp W (h.below hb)
 have gj:Hid (∀ W n,Below w.heap.size w W->Zkn q->q.vars=(n:Nat)->∀ u,u=askV q ao ae ap co ce cp->Calls prog 27 #[u] W (SetP Zgp q n W)):=Hd fun W n hb hs hn u hu=>by subst hu;exact Zun Zdg q ao ae ap co ce cp W (h.below hb) hs n hn
 obtain⟨vars,ga⟩:∃ z,z=q.vars:=⟨_,rfl⟩;have HV:=Hd ga;obtain⟨plen,gw⟩:∃ z,z=q.plan.length:=⟨_,rfl⟩;unfold askV at gl gj ⊢;rw[<- ga,<- gw] at gl gj ⊢;obtain⟨olen,gx⟩:∃ z,z=q.order.length:=⟨_,rfl⟩;obtain⟨elen,gz⟩:∃ z,z=q.es.length:=⟨_,rfl⟩;rw[<- gx,<- gz] at gl gj ⊢;obtain⟨w1,gd⟩:∃ w1,w1=(w.alloc (.cells #[.int .i64 vars,.slice ao olen co,.slice ae elen ce,.slice ap plen cp] 39)).alloc (.cells #[.int .i64 after] 3):=⟨_,rfl⟩;have HW1:Hid (_=w1):=Hd gd.symm;have gR:Hid (Below w.heap.size w w1):=by rw[gd];exact Hd ((Zaf _ _).alloc (by simp) _)
 have g7:w1.heap[w.heap.size]?=some (.cells #[.int .i64 vars,.slice ao olen co,.slice ae elen ce,.slice ap plen cp] 39 (0,0)):=by rw[gd];exact(Go.heap_alloc_old _ _ (by simp)).trans (heap_alloc_new _ _)
 have gG:w1.heap[w.heap.size+1]?=some (.cells #[.int .i64 after] 3 (0,0)):=by
  have:=heap_alloc_new (w.alloc (.cells #[.int .i64 vars,.slice ao olen co,.slice ae elen ce,.slice ap plen cp] 39)) (.cells #[.int .i64 after] 3);rw[World.size_alloc] at this;rw[gd];exact this
 have x0:w1.cell? ⟨w.heap.size+1,0,none⟩=some (.int .i64 after):=by rw[cell_of_row _ _ 0 _ _ _ gG];rfl
 have d0:w1.cell? ⟨w.heap.size,0,none⟩=some (.int .i64 vars):=by rw[cell_of_row _ _ 0 _ _ _ g7];rfl
 have d1:w1.cell? ⟨w.heap.size,1,none⟩=some (.slice ao olen co):=by rw[cell_of_row _ _ 1 _ _ _ g7];rfl
 have d2:w1.cell? ⟨w.heap.size,2,none⟩=some (.slice ae elen ce):=by rw[cell_of_row _ _ 2 _ _ _ g7];rfl
 have d3:w1.cell? ⟨w.heap.size,3,none⟩=some (.slice ap plen cp):=by rw[cell_of_row _ _ 3 _ _ _ g7];rfl
 clear h gd g7 ga gw gx gz gG
 go_enter func6,ntmps6
 go_upto_region 1 with fail;rw[HW1.out];go_wp2_with fail;refine(gl.out _ gR.out _ rfl).mono ?_;rintro y w2 ⟨b,rfl,hb,g2⟩;have HB:=Hd hb;have g0:=Hd (gR.out.trans (g2.mono gR.out.size));have e0:=(g2.cell (p:=⟨w.heap.size,0,none⟩) (Zab d0)).trans d0;have e1:=(g2.cell (p:=⟨w.heap.size,1,none⟩) (Zab d1)).trans d1;have e2:=(g2.cell (p:=⟨w.heap.size,2,none⟩) (Zab d2)).trans d2;have e3:=(g2.cell (p:=⟨w.heap.size,3,none⟩) (Zab d3)).trans d3;have y0:=(g2.cell (p:=⟨w.heap.size+1,0,none⟩) (Zab x0)).trans x0;have g1:=Hd (Zeb Zdg w2);clear hb g2 gl d0 d1 d2 d3 HW1 x0;cases b with
 | false =>
   go_wp2_with fail;refine g1.out.mono ?_;rintro y w3 ⟨rfl,g5⟩;have gq:=Hd (g0.out.trans (g5.mono g0.out.size));clear g5;go_wp2_with fail;go_ret;exact⟨rfl,gq.out⟩
 | true =>
   by_cases hG:after<0
   . go_wp2_with fail;refine g1.out.mono ?_;rintro y w3 ⟨rfl,g5⟩;have gq:=Hd (g0.out.trans (g5.mono g0.out.size));clear g5;go_wp2_with fail;go_ret;exact⟨rfl,gq.out⟩
   by_cases hE:20<after
   . go_wp2_with fail;refine g1.out.mono ?_;rintro y w3 ⟨rfl,g5⟩;have gq:=Hd (g0.out.trans (g5.mono g0.out.size));clear g5;go_wp2_with fail;go_ret;exact⟨rfl,gq.out⟩
   have gk:=Hd (HB.out (by first|rfl|trivial));obtain⟨n,hn⟩:∃ n:Nat,vars=(n:Nat):=⟨vars.toNat,by have:=gk.out.lo;have:=HV.out;omega⟩;subst hn;have hz:n<=6:=by have:=gk.out.hi;have:=HV.out;omega
   have hA:1<=n:=by have:=gk.out.lo;have:=HV.out;omega
   have hD:q.es.length<=5:=gk.out.es;have gN:=Hd (gj.out w2 n g0.out gk.out rfl _ rfl);clear gj g1 HB;go_wp2_with fail;refine gN.out.mono ?_;rintro y w3 ⟨mb,vl,vx,wb,hs,nx,rfl,g4,gE,hnx,o3,m3,V3,lt3,-⟩;have hC:hs.length<=5:=by have:=congrArg List.length gE;simp at this;omega
   obtain⟨al,cl,hd⟩:∃ a c,vl=.slice a hs.length c:=by
    obtain⟨a,c,e,_⟩:=lt3.l.own.slice;exact⟨a,c,by rw[e];simp[Za0]⟩
   subst hd;have gM:Hid (∀ p∈hs,p∈two++hs):=Hd fun p hp=>List.mem_append_right _ hp
   have hf:(two++hs).length=2+hs.length:=by simp[two];omega
   have hq:Hid (∀ k,k<=192->k*2^n<=Zb7 n):=Hd fun k hk=>Zjr hk
   have hI:Hid (wb.cell? ⟨w.heap.size,0,none⟩=some (.int .i64 (n:Nat))):=Hd ((g4.cell (p:=⟨w.heap.size,0,none⟩) (Zab e0)).trans e0);have c0:=(lt3.below0.cell (p:=⟨w.heap.size,0,none⟩) (Zab ((g4.cell (p:=⟨w.heap.size,0,none⟩) (Zab e0)).trans e0))).trans ((g4.cell (p:=⟨w.heap.size,0,none⟩) (Zab e0)).trans e0);have z0:=(lt3.below0.cell (p:=⟨w.heap.size+1,0,none⟩) (Zab ((g4.cell (p:=⟨w.heap.size+1,0,none⟩) (Zab y0)).trans y0))).trans ((g4.cell (p:=⟨w.heap.size+1,0,none⟩) (Zab y0)).trans y0);have gP:Hid (w.heap.size+1<wb.heap.size):=Hd (Zab ((g4.cell (p:=⟨w.heap.size+1,0,none⟩) (Zab y0)).trans y0));have gC:Hid (Below w.heap.size w wb):=Hd (g0.out.trans (g4.mono g0.out.size));have hH:Hid (∀ p∈two++hs,p.1<nx):=Hd fun p hp=>(lt3.sat.range p hp).2
   have HL:=Hd ((lt3.withOd (Od':=fun _=>True) trivial).withSt (Wt':=SufW q.plan) (by rw[lt3.st.1];exact List.suffix_refl _));clear lt3 g4 gE gN e0 e1 e2 e3 y0;have hB:∀ (fn:Fn) (first cap:Array Value) (w:World),(Instr.makeFunc fn first cap).run prog w=.ok (.func fn first cap) w:=fun _ _ _ _=>rfl
   obtain⟨w4,gc⟩:∃ w,w=w3.alloc (.cells #[.pointer (some ⟨mb,0,none⟩)] 41):=⟨_,rfl⟩;obtain⟨w5,gv⟩:∃ w,w=w4.alloc (.cells #[.int .i64 0] 3):=⟨_,rfl⟩;have gV:Hid (_=w4):=Hd gc.symm;have hg:Hid (_=w5):=Hd gv.symm;have gt:Below w3.heap.size w3 w4:=by rw[gc];exact Zaf _ _
   have gs:Below w4.heap.size w4 w5:=by rw[gv];exact Zaf _ _
   have gT:w4.heap.size=w3.heap.size+1:=by rw[gc];simp
   have hc:wb.heap.size<=w3.heap.size:=HL.out.below0.size;have gb:=gt.trans (gs.mono gt.size);obtain⟨fs,gf⟩:∃ fs,fs=two++hs:=⟨_,rfl⟩;have g9:=Hd gf;have HB2:Hid (B2 fs):=Hd (by rw[gf];exact HL.out.b2);have m4:w5.cell? ⟨w3.heap.size,0,none⟩=some (.pointer (some ⟨mb,0,none⟩)):=by
    rw[gs.cell (p:=⟨w3.heap.size,0,none⟩) (by rw[gT];simp),gc,cell_of_row _ _ 0 _ _ _ (heap_alloc_new w3 _)];rfl
   have n5:w5.heap[w4.heap.size]?=some (.cells #[.int .i64 0] 3 (0,0)):=by rw[gv];exact heap_alloc_new _ _
   have h5:FxS Zgp n (Zb7 n) wb mb q.plan (· = w4.heap.size) o3 w3 (EnB w4.heap.size (w.heap.size+1) w3.heap.size mb after 0) fs nx w5:=by
    rw[gf];refine⟨o3,m3,V3,ChgX.of_below gb o3 _,HL.out.st,HL.out.sat.below gb,⟨n5,HL.out.sat.lt.none (by omega)⟩,⟨(gb.cell (p:=⟨w.heap.size+1,0,none⟩) (Zab z0)).trans z0,HL.out.sat.chg.none' gP.out rfl⟩,⟨m4,HL.out.sat.lt.none (Nat.le_refl _)⟩⟩
   have he:=gP.out;have na:w.heap.size+1≠w4.heap.size:=by omega
   have nm:w3.heap.size≠w4.heap.size:=by omega
   have gF:fs.length<=7:=by rw[gf];omega
   have HF:=Zy9 (K:=Zgp) (n:=n) (room:=Zb7 n) (L:=100) (w0:=wb) (mb:=mb) (ws0:=q.plan) (after:=after) Zdg (show wb.heap.size<=w4.heap.size by omega) na nm;have h0:=Hd (Znr Zdg HF 0 (by omega) h5 HB2.out (by simp) (by omega) (by omega));have hh:Hid (∀ {j i:Nat} {nx:Int} {W:World},FxS Zgp n (Zb7 n) wb mb q.plan (· = w4.heap.size) o3 w3 (EnB w4.heap.size (w.heap.size+1) w3.heap.size mb after j) fs nx W->FxS Zgp n (Zb7 n) wb mb q.plan (· = w4.heap.size) o3 w3 (EnB w4.heap.size (w.heap.size+1) w3.heap.size mb after i) fs nx (W.setCell ⟨w4.heap.size,0,none⟩ (.int .i64 (i:Nat)))):=Hd fun h=>h.setN (.inl rfl) (by omega) na nm
   have ho:=Hd HF;have gY:Hid (∀ {B:World->Own->Prop} {nx':Int} {W:World},FxS Zgp n (Zb7 n) wb mb q.plan (· = w4.heap.size) o3 w3 B fs nx' W->∃ o m V,LawT Zgp n (fun _=>True) (Zb7 n) wb mb fs nx' (SufW q.plan) hs hs W o m V (.slice al hs.length cl) vx):=Hd fun h=>h.lawT HL.out (fun k hk=>by subst hk;omega) HB2.out
   have g6:Hid (∀ {j:Nat} {nx:Int} {W:World},FxS Zgp n (Zb7 n) wb mb q.plan (· = w4.heap.size) o3 w3 (EnB w4.heap.size (w.heap.size+1) w3.heap.size mb after j) fs nx W->W.cell? ⟨w3.heap.size,0,none⟩=some (.pointer (some ⟨mb,0,none⟩))/\(∃ v,W.cell? ⟨w4.heap.size,0,none⟩=some v)/\W.frozen? ⟨w4.heap.size,0,none⟩=false):=Hd fun⟨_,_,_,_,_,_,q1,_,q3⟩=>⟨q3.1,⟨_,q1.cell⟩,q1.fr⟩
   have hm:Hid (fs.length<=7):=Hd gF;have hj:=Hd hnx;have h4:=Hd (show after<=20 by omega);obtain⟨k1,⟨v2,k2⟩,k3⟩:=g6.out h5;clear gc gv gt gs gb n5 h5 HF gf z0 c0 m4 na nm gF hnx gT hc he hf;go_upto_region 4 with fail;rw[gV.out];have m4:w4.cell? ⟨w3.heap.size,0,none⟩=some (.pointer (some ⟨mb,0,none⟩)):=by
    rw[<- gV.out,cell_of_row _ _ 0 _ _ _ (heap_alloc_new w3 _)];rfl
   go_upto_region 7 with fail;rw[hg.out];clear m4;go_wp2_with fail;refine h0.out.mono ?_;rintro x w6 ge;obtain⟨rfl,s1,nx1,ht,hy,h6⟩:=Zpu h4.out ge;clear k1 k2 k3 ge h0;obtain⟨k1,⟨v2,k2⟩,k3⟩:=g6.out h6;have h7:=hh.out (i:=0) h6;clear h6;go_upto_region 10 with fail;obtain⟨w7,gD⟩:∃ w,w=w6.setCell ⟨w4.heap.size,0,none⟩ (.int .i64 0):=⟨_,rfl⟩;have gK:FxS Zgp n (Zb7 n) wb mb q.plan (· = w4.heap.size) o3 w3 (EnB w4.heap.size (w.heap.size+1) w3.heap.size mb after 0) fs nx1 w7:=by rw[gD];exact h7
   rw[<- gD];clear k1 k2 k3 gD h7;have h3:=Hd (Znf Zdg ho.out 0 (by omega) gK HB2.out (by simp) (k0:=1) (F0:=fun _=>true) (by rw[g9.out];simp[two]) (by have:=hj.out;omega) (by have:=hm.out;omega));obtain⟨k1,⟨v2,k2⟩,k3⟩:=g6.out gK;clear gK;go_wp2_with fail;refine h3.out.mono ?_;rintro x w8 ge;obtain⟨rfl,s2,nx2,hr,hw,h8⟩:=Zpu h4.out ge;clear k1 k2 k3 ge h3;obtain⟨k1,⟨v2,k2⟩,k3⟩:=g6.out h8;have gu:Hid (NilP fs 1 1):=Hd (.inr ⟨⟨fun _=>true,by rw[g9.out];simp[two]⟩,rfl⟩);have gZ:=Hd (h8.ask fun o m V hs=>Zto hs HB2.out);have go:=Hd (h8.ask fun o m V hs=>Zie hs gu.out);have gi:=Hd (h8.ask fun o m V hs=>Zon hs gu.out);have H8:=Hd h8;clear h8;go_wp2_with fail;refine gZ.out.mono ?_;rintro x w' ⟨rfl,rfl⟩;go_wp2_with fail;refine go.out.mono ?_;rintro x w' ⟨rfl,rfl⟩;go_wp2_with fail;refine gi.out.mono ?_;rintro x w9 ⟨rfl,gU⟩;have h9:=H8.out.below EnB.keepB gU;clear k1 k2 k3 gU gi go gZ H8;obtain⟨k1,⟨v2,k2⟩,k3⟩:=g6.out h9;have gm:=Hd (h9.ask fun o m V hs=>Zqb hs gu.out 5);have H9:=Hd h9;clear h9;go_wp2_with fail;refine gm.out.mono ?_;rintro x w10 ⟨rfl,gJ⟩;have g3:=H9.out.below EnB.keepB gJ;clear k1 k2 k3 gJ gm H9;obtain⟨k1,⟨v2,k2⟩,k3⟩:=g6.out g3;have gX:=Hd (Zri w10 (.func (.func 38) #[] #[.pointer (some ⟨w4.heap.size,0,none⟩),.pointer (some ⟨w.heap.size+1,0,none⟩),.pointer (some ⟨w3.heap.size,0,none⟩)]));have gS:=Hd g3;go_wp2_with fail;refine gX.out.mono ?_;rintro x w' ⟨rfl,rfl⟩;clear gX
   by_cases gy:∃ F,(no,F)∈fs
   .
    obtain⟨F,hF⟩:=gy;have gB:=Hd (g3.ask fun o m V hs=>Znu hs hF);obtain⟨oT,mT,VT,hT⟩:=gY.out g3;have HT:=Hd hT;clear g3 hT gS;go_wp2_with fail;refine gB.out.mono ?_;rintro y w' ⟨rfl,rfl⟩;have g1:=Hd (Zeb Zdg w10);have gp:Hid (Below wb.heap.size wb w10):=Hd HT.out.below0;have gr:=Hd (Zsk HT.out.sat (by omega) (HT.out.row (fun p hp=>by rw[g9.out];exact gM.out p hp) (by omega)))
    have gn:Hid (Calls prog 36 #[.pointer (some ⟨mb,0,none⟩),.int .i64 (hs.length:Nat)] w10 fun x w'=>x=.returned (.bool true)/\w10=w'):=Hd ((Zp1 HT.out.sat hs.length (by omega)).mono fun e w' ⟨h1,h2⟩=>by
     rw[h1,decide_eq_true (by rw[g9.out];simp[two]<;>omega)];exact⟨rfl,h2⟩)
    go_wp2_with fail;refine gn.out.mono ?_;rintro y w' ⟨rfl,rfl⟩;go_wp2_with fail;refine gr.out.mono ?_;rintro y wl ⟨rfl,gh⟩;have g8:=Hd (gp.out.trans (gh.mono gp.out.size));have g1:=Hd (Zeb Zdg wl);clear gh gr gn;go_wp2_with fail;refine g1.out.mono ?_;rintro y wm ⟨rfl,gg⟩;have gQ:=Hd (gC.out.trans ((g8.out.trans (gg.mono g8.out.size)).mono gC.out.size));clear gg g1;go_wp2_with fail;go_ret;exact⟨rfl,gQ.out⟩
   .
    have gO:Hid (NilP fs no 8):=Hd (.inl ⟨rfl,fun p hp e=>gy ⟨p.2,by rw[<- e];exact hp⟩⟩);have gB:=Hd (g3.ask fun o m V hs=>Zp2 hs (k:=no) fun p hp e=>gy ⟨p.2,by rw[<- e];exact hp⟩);have go:=Hd (g3.ask fun o m V hs=>Zie hs gO.out);have gi:=Hd (g3.ask fun o m V hs=>Zon hs gO.out);clear g3 gy;go_wp2_with fail;refine gB.out.mono ?_;rintro y w' ⟨rfl,rfl⟩;go_wp2_with fail;refine go.out.mono ?_;rintro x w' ⟨rfl,rfl⟩;go_wp2_with fail;refine gi.out.mono ?_;rintro x w11 ⟨rfl,gI⟩;have gA:=gS.out.below EnB.keepB gI;clear k1 k2 k3 gI gi go gB gS;obtain⟨k1,⟨v2,k2⟩,k3⟩:=g6.out gA;have gm:=Hd (gA.ask fun o m V hs=>Zqb hs gO.out 5);have ha:=Hd gA;clear gA;go_wp2_with fail;refine gm.out.mono ?_;rintro x w12 ⟨rfl,gH⟩;have gL:=ha.out.below EnB.keepB gH;clear k1 k2 k3 gH gm ha;obtain⟨k1,⟨v2,k2⟩,k3⟩:=g6.out gL;obtain⟨oT,mT,VT,hT⟩:=gY.out gL;have HT:=Hd hT;clear gL hT;have g1:=Hd (Zeb Zdg w12);have gp:Hid (Below wb.heap.size wb w12):=Hd HT.out.below0;have gr:=Hd (Zsk HT.out.sat (by omega) (HT.out.row (fun p hp=>by rw[g9.out];exact gM.out p hp) (by omega)))
    have gn:Hid (Calls prog 36 #[.pointer (some ⟨mb,0,none⟩),.int .i64 (hs.length:Nat)] w12 fun x w'=>x=.returned (.bool true)/\w12=w'):=Hd ((Zp1 HT.out.sat hs.length (by omega)).mono fun e w' ⟨h1,h2⟩=>by
     rw[h1,decide_eq_true (by rw[g9.out];simp[two]<;>omega)];exact⟨rfl,h2⟩)
    go_wp2_with fail;refine gn.out.mono ?_;rintro y w' ⟨rfl,rfl⟩;go_wp2_with fail;refine gr.out.mono ?_;rintro y wl ⟨rfl,gh⟩;have g8:=Hd (gp.out.trans (gh.mono gp.out.size));have g1:=Hd (Zeb Zdg wl);clear gh gr gn;go_wp2_with fail;refine g1.out.mono ?_;rintro y wm ⟨rfl,gg⟩;have gQ:=Hd (gC.out.trans ((g8.out.trans (gg.mono g8.out.size)).mono gC.out.size));clear gg g1;go_wp2_with fail;go_ret;exact⟨rfl,gQ.out⟩
end Go.Proofs.YtljjokfhdkegbaaGreat
