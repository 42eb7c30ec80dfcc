/- Several texts in one file: contracts of the program's functions and what follows from them. -/
import Derived.Test.YtkbegdkpboklpaaGreatN1
import Derived.Laws.IdiomCopy
import Derived.Deep.Cut
import Derived.Deep.CutRange
import Derived.Deep.DeepCutAuto
set_option linter.unusedSimpArgs false
set_option linter.unusedVariables false
set_option linter.unusedSectionVars false
set_option linter.unnecessarySimpa false
set_option maxRecDepth 100000
set_option maxHeartbeats 8000000
namespace Go.Proofs.YtkbegdkpboklpaaGreat
open Go.Proofs.Tryz
open Go.RowKit
section
variable {P:Program}{ops:Array Oper}{S:World->Prop}{Q:Exit->Act->World->Prop}{last:Bool}
theorem Zb6 {o:Oper}{r:List (Option Oper×Bool)}{a:Act}{w:World}{f:FuncId}{args:Array Value}{R:Value->World->Prop}(hg:o.guard=none)
 (he:(execOp a.eval o).run P w=.ok (.enter f args) w) (hc:Calls P f args w fun e w'=>∃ v,e=.returned v/\S w'/\R v w')
 (h:∀ v w',S w'->R v w'->Zcd P ops Q S last r (a.put o.dst v) w'):Zcd P ops Q S last ((some o,true)::r) a w:=by
 have hw:Region.wanted o (yielded ops a.tmps)=true:=by simp[Region.wanted,hg]
 unfold Zcd;simp only[hw,if_true,Oper.wp,he,Oper.upon];exact hc.mono fun e w' ⟨v,h1,h2,h3⟩=>by subst h1;exact⟨.inr h2,h v w' h2 h3⟩
end
theorem Zo0 (o:Own)(w:World)(hlt:Zal o w):RowR (Zcx o w.heap.size .entries) (w.alloc (.cells (madeCells #[.int .i64 0,.int .i64 0,.int .i64 0,.int .i64 0,.int .i64 0,.bool false] (4096*6)) 298)) .entries 298 6 (.slice (some ⟨w.heap.size,0,none⟩) 4096 4096) 4096 ((List.replicate 4096 ent0).flatMap entV):=by
 refine⟨by rw[Zbk entV 6 Zb5,List.length_replicate],.inr ⟨w.heap.size,4096,_,rfl,Zbg _ _ _,heap_alloc_new w _,Nat.le_refl _,by decide,by rw[size_madeCells];exact Nat.le_refl _,?_⟩⟩;rw[Zjp,List.take_of_length_le];rw[Zbk entV 6 Zb5,List.length_replicate];exact Nat.le_refl _
theorem Zmh (F:Phi)(n:Nat):Zun F (List.replicate n ent0):=by
 intro i hi;have:Ze8 (List.replicate n ent0) i=ent0:=by
  simp only[Ze8,List.getD,List.getElem?_replicate];split<;>rfl
 rw[this] at hi;cases hi
theorem Zlb (w:World):(Instr.makeSlice 219 (.int .i64 4096) (.int .i64 4096)).run prog w=.ok (.slice (some ⟨w.heap.size,0,none⟩) 4096 4096) (w.alloc (.cells (madeCells #[.int .i64 0,.int .i64 0,.int .i64 0,.int .i64 0,.int .i64 0,.bool false] (4096*6)) 298)):=by
 have s:=Zpc;cases hi:prog.info? 298 with
 | none=>rw[hi] at s;cases s
 | some i =>
   rw[hi] at s;simp only[Option.map_some,Option.some.injEq,Prod.mk.injEq] at s;obtain⟨hz,hs,hb⟩:=s;have:=run_make (P:=prog) w 219 298 i _ underlying219 hi hz .i64 .i64 4096 4096 (by decide) (by decide) (by rw[hb];decide) (by decide);rw[hs] at this;exact this
structure Zds (o:Own)(w:World)(mb ge cap:Nat)(l:List EntD)(asked found:Int)(F:Phi):Prop where
 own:o mb=some .memo
 blk:w.heap[mb]?=some (.cells #[.int .i64 4096,.slice (some ⟨ge,0,none⟩) 4096 cap,.int .i64 asked,.int .i64 found] 221 (0,0))
 len:l.length=4096
 row:RowR o w .entries 298 6 (.slice (some ⟨ge,0,none⟩) 4096 cap) 4096 (l.flatMap entV)
 ok:Zun F l
theorem Zds.is {o:Own}{w:World}{mb ge cap:Nat}{l:List EntD}{asked found:Int}{F:Phi}(h:Zds o w mb ge cap l asked found F):Zct o w mb F:=⟨h.own,_,_,_,h.blk,.inr ⟨ge,cap,l,rfl,h.len,h.row,h.ok⟩⟩
theorem Znn {o:Own}{w:World}{mb:Nat}{asked found:Int}{F:Phi}(hown:o mb=some .memo)(hlt:Zal o w)(hmb:w.heap[mb]?=some (.cells #[.int .i64 4096,.slice none 0 0,.int .i64 asked,.int .i64 found] 221 (0,0)))(W:World)
 (hW:W=(w.setCell ⟨mb,1,none⟩ (.slice (some ⟨w.heap.size,0,none⟩) 4096 4096)).alloc (.cells (madeCells #[.int .i64 0,.int .i64 0,.int .i64 0,.int .i64 0,.int .i64 0,.bool false] 24576) 298)) :
 ∃ o',Zds o' W mb w.heap.size 4096 (List.replicate 4096 ent0) asked found F/\Chg (fun r=>r=.memo\/r=.entries) o o' w W/\Zal o' W:=by
 have g3:mb<w.heap.size:=hlt _ _ hown;obtain⟨w1,h1⟩:∃ w1,w1=w.setCell ⟨mb,1,none⟩ (.slice (some ⟨w.heap.size,0,none⟩) 4096 4096):=⟨_,rfl⟩;have hz:w1.heap.size=w.heap.size:=by rw[h1];simp[World.setCell]
 have g1:Chg (fun r=>r=.memo\/r=.entries) o o w w1:=by rw[h1];exact Chg.setCell (R:=fun r=>r=.memo\/r=.entries) (p:=⟨mb,1,none⟩) (Chg.refl _ o w) hown (.inl rfl) _
 have g0:Zal o w1:=hlt.mono g1.size;have g2:w1.heap[mb]?=some (.cells #[.int .i64 4096,.slice (some ⟨w.heap.size,0,none⟩) 4096 4096,.int .i64 asked,.int .i64 found] 221 (0,0)):=by rw[h1];exact Zah hmb _
 have hr:=Zo0 o w1 g0;rw[<- h1] at hW;rw[hz] at hr;subst hW;refine⟨Zcx o w.heap.size .entries,⟨Zdd hlt (Nat.le_refl _) hown,?_,List.length_replicate,hr,Zmh F _⟩,?_,?_⟩
 . exact(Go.heap_alloc_old w1 _ (by omega)).trans g2
 . rw[<- hz];exact g1.allocR g0 _ (.inr rfl)
 . rw[<- hz];exact g0.allocR _ _
theorem Zds.below {o:Own}{w w':World}{mb ge cap:Nat}{l:List EntD}{asked found:Int}{F:Phi}(h:Zds o w mb ge cap l asked found F)(hlt:Zal o w)(hb:Below w.heap.size w w'):Zds o w' mb ge cap l asked found F :=
 ⟨h.own,(hb.block mb (hlt _ _ h.own)).trans h.blk,h.len,h.row.below hlt hb,h.ok⟩
theorem Zmt {o:Own}{w:World}{mb ge cap:Nat}{l:List EntD}{asked found:Int}{F:Phi}(h:Zds o w mb ge cap l asked found F)(op:Int)(a b c:Nat) :
 Calls prog 229 #[.pointer (some ⟨mb,0,none⟩),.agg #[.int .i64 op,.int .i64 a,.int .i64 b,.int .i64 c]] w.drew fun x w'=>∃ i,i<4096/\x=.returned (.pointer (some ⟨ge,i*6,none⟩))/\Below w.drew.heap.size w.drew w' :=
 Zp0 mb ge cap op a b c w.drew (cells4 (w:=w.drew) h.blk).2.1
theorem Zds.stored {o:Own}{w:World}{mb ge cap:Nat}{l:List EntD}{asked found:Int}{F:Phi}(h:Zds o w mb ge cap l asked found F){k:Nat}(hk:k<4096){E:EntD}(hE:F E.op E.a E.b E.c E.r):Zds o (set6 w ge k E) mb ge cap (l.set k E) asked found F:=by
 have hg:=h.row.owner;have g0:mb≠ge:=fun e=>by subst e;have:=h.own;rw[hg] at this;cases this
 refine⟨h.own,(Zw1 g0).trans h.blk,by rw[List.length_set];exact h.len,?_,Zvi h.ok k hE⟩;have hr:=h.row;rw[show 4096=l.length from h.len.symm] at hr;have:=Zw0 (m:=l.length) hr (by rw[h.len];exact hk) E;rw[h.len] at this;exact this
theorem Ybf (w:World)(a:Option Addr)(n c:Nat):(binOp .eql 219 (.slice a n c) (.slice none 0 0)).run prog w=.ok (.bool a.isNone) w:=by
 have hd:Op.maxDepth=9999+1:=rfl;have h:(Op.equal 219 (.slice a n c) (.slice none 0 0)).run prog w=.ok a.isNone w:=by
  unfold Op.equal;rw[hd];unfold Op.equalIn;simp only[Sem.run_bind,run_underlying underlying219,Result.andThen_ok];cases a<;>simp
 simp only[binOp];simp[h]
theorem Zym (o:Own)(mb:Nat)(F:Phi)(op:Int)(a b c r:Nat)(w:World)(h:Zct o w mb F)(hlt:Zal o w)(hF:F op a b c r) :
 Calls prog 193 #[.pointer (some ⟨mb,0,none⟩),.int .i64 op,.int .i64 a,.int .i64 b,.int .i64 c,.int .i64 r] w fun x w'=>x=.returned (.tuple #[])/\∃ o',Zct o' w' mb F/\Chg (fun r=>r=.memo\/r=.entries) o o' w w'/\Zal o' w':=by
 obtain⟨ve,asked,found,gv,hv⟩:=h.ex;obtain⟨c0,c1,c2,c3,f0⟩:=cells4 gv;have lmb:mb<w.heap.size:=Zaa c0;have gC:=Hd hlt;have gr:=Hd gv;have gc:=Hd h.own;have HV:=Hd hv;have HF:=Hd hF;have gB:=Hd Zlb;clear h hlt gv hv hF;rcases HV.out with rfl|⟨ge,cap,l,rfl,hl,gt,gx⟩
 .
  have gD:=Zlb w;have gq:(binOp .eql 219 (.slice none 0 0) (.slice none 0 0)).run prog w=.ok (.bool true) w:=Ybf w none 0 0;have HM:=Hd (Znn (F:=F) gc.out gC.out gr.out)
  go_enter func193,ntmps193
  go_upto_region 3 with fail;obtain⟨W1,g5⟩:∃ W1,W1=(w.setCell ⟨mb,1,none⟩ (.slice (some ⟨w.heap.size,0,none⟩) 4096 4096)).alloc (.cells (madeCells #[.int .i64 0,.int .i64 0,.int .i64 0,.int .i64 0,.int .i64 0,.bool false] 24576) 298):=⟨_,rfl⟩;rw[<- g5];obtain⟨o1,gy,gA,gz⟩:=HM.out W1 g5;have g6:=Hd gy;have ga:=Hd gA;have g7:=Hd gz;clear gy gA gz g5 HM gD gq c0 c1 c2 c3 f0 lmb HV gr gc gB;obtain⟨d0,d1,d2,d3,g0⟩:=cells4 g6.out.blk;have lmb1:mb<W1.heap.size:=Zaa d0;go_upto_region 4 with fail;obtain⟨bx,g9⟩:∃ bx,bx=W1.heap.size:=⟨_,rfl⟩;obtain⟨W2,g4⟩:∃ W2,W2=W1.alloc (.cells #[.int .i64 op,.int .i64 a,.int .i64 b,.int .i64 c] 294):=⟨_,rfl⟩;have g3:Below W1.heap.size W1 W2:=by rw[g4];exact Zad _ _
  have g8:W2.heap[bx]?=some (.cells #[.int .i64 op,.int .i64 a,.int .i64 b,.int .i64 c] 294 (0,0)):=by rw[g4,g9];exact heap_alloc_new W1 _
  rw[<- g4,<- g9];have gf:=g6.out.below g7.out g3;have gl:=ga.out.trans (Chg.of_below g3 (fun r=>r=.memo\/r=.entries) _);have gi:=g7.out.mono g3.size;have gn:=Hd gf;have gw:=Hd gl;have go:=Hd gi;have gp:=Hd g8;clear gf gl gi g3 g4 g9 g6 ga g7 d0 d1 d2 d3 g0 lmb1;obtain⟨k0,k1,k2,k3,fk⟩:=cells4 g8;clear g8;refine Zam (fun W:World=>W.cell? ⟨bx,0,none⟩=some (.int .i64 op)/\W.cell? ⟨bx,1,none⟩=some (.int .i64 a)/\W.cell? ⟨bx,2,none⟩=some (.int .i64 b)/\W.cell? ⟨bx,3,none⟩=some (.int .i64 c)) true 7
   [(0,false),(1,false),(3,false),(4,false),(5,false),(2,true),(6,false),(7,true)] (by kernel_rfl) (by kernel_rfl) ⟨k0,k1,k2,k3⟩ ?_
  simp only[planned,Zcc]
  iterate 5
   refine Zaj rfl ?_;apply Exists.intro;refine⟨fun w' hw=>?_,?_⟩
   . obtain⟨q0,q1,q2,q3⟩:=hw;go_simp;rfl
   simp only[Zae]
  refine Zb6 (R:=fun v w'=>∃ i,i<4096/\v=.pointer (some ⟨w.heap.size,i*6,none⟩)/\Below W2.drew.heap.size W2.drew w') rfl (by go_simp) ((Zmt gn.out op a b c).mono (fun e w' he=>?_)) ?_
  . obtain⟨i,hi,rfl,hb⟩:=he;obtain⟨j0,j1,j2,j3,_⟩:=cells4 ((hb.block bx (Array.getElem?_eq_some_iff.1 gp.out).1).trans gp.out);exact⟨_,rfl,⟨j0,j1,j2,j3⟩,i,hi,rfl,hb⟩
  rintro v w3-⟨i,hi,rfl,g2⟩;simp only[Zae];have g2:Below W2.heap.size W2 w3:=(Zaf W2 1).trans g2;have g1:=gn.out.below go.out g2;have gk:=gw.out.trans (Chg.of_below g2 (fun r=>r=.memo\/r=.entries) _);have gh:=go.out.mono g2.size;obtain⟨n0,n1,n2,n3,n4,n5⟩:=Znb g1.row g1.len hi
  iterate 1
   refine Zaj rfl ?_;apply Exists.intro;refine⟨fun w' hw=>?_,?_⟩
   . obtain⟨q0,q1,q2,q3⟩:=hw;go_simp;rfl
   simp only[Zae]
  refine Zck rfl rfl (Zhy (fun j=>by have:=g1.row.frozen j;exact this) n0 n1 n2 n3 n4 n5 ⟨op,a,b,c,r,true⟩) ?_;simp only[Zae];have gd:=(g1.stored hi (E:=⟨op,a,b,c,r,true⟩) HF.out).is;have gj:=Zsh (k:=i) (E:=⟨op,a,b,c,r,true⟩) gk g1.row.owner (.inr rfl);have gg:Zal o1 (set6 w3 w.heap.size i ⟨op,a,b,c,r,true⟩):=gh.mono (by simp[set6,World.setCell]);obtain⟨WF,gm⟩:∃ WF,WF=set6 w3 w.heap.size i ⟨op,a,b,c,r,true⟩:=⟨_,rfl⟩;rw[<- gm] at gd gj gg ⊢;clear n0 n1 n2 n3 n4 n5 g1 gk gh g2 k0 k1 k2 k3 fk gm;go_wp2_with fail;refine bodyPost_end (results_none rfl _ _ _) rfl ?_;exact⟨rfl,o1,gd,gj,gg⟩
 .
  have g6:Hid (Zds o w mb ge cap l asked found F):=(Hd ⟨gc.out,gr.out,hl,gt,gx⟩);have gq:(binOp .eql 219 (.slice (some ⟨ge,0,none⟩) 4096 cap) (.slice none 0 0)).run prog w=.ok (.bool false) w:=Ybf w _ _ _;clear hl gt gx
  go_enter func193,ntmps193
  go_upto_region 3 with fail;obtain⟨W1,g5⟩:∃ W1,W1=w:=⟨_,rfl⟩;have ga:Hid (Chg (fun r=>r=.memo\/r=.entries) o o w W1):=Hd (g5 ▸ Chg.refl _ _ _);have g7:Hid (Zal o W1):=Hd (g5 ▸ gC.out);rw[<- g5] at g6;rw[<- g5];obtain⟨o1,gu⟩:∃ o1,o1=o:=⟨_,rfl⟩;rw[<- gu] at g6 g7;have ga:Hid (Chg (fun r=>r=.memo\/r=.entries) o o1 w W1):=by rw[gu];exact ga
  clear g5 gu gq c0 c1 c2 c3 f0 lmb HV gr gc gB;obtain⟨d0,d1,d2,d3,g0⟩:=cells4 g6.out.blk;have lmb1:mb<W1.heap.size:=Zaa d0;go_upto_region 4 with fail;obtain⟨bx,g9⟩:∃ bx,bx=W1.heap.size:=⟨_,rfl⟩;obtain⟨W2,g4⟩:∃ W2,W2=W1.alloc (.cells #[.int .i64 op,.int .i64 a,.int .i64 b,.int .i64 c] 294):=⟨_,rfl⟩;have g3:Below W1.heap.size W1 W2:=by rw[g4];exact Zad _ _
  have g8:W2.heap[bx]?=some (.cells #[.int .i64 op,.int .i64 a,.int .i64 b,.int .i64 c] 294 (0,0)):=by rw[g4,g9];exact heap_alloc_new W1 _
  rw[<- g4,<- g9];have gf:=g6.out.below g7.out g3;have gl:=ga.out.trans (Chg.of_below g3 (fun r=>r=.memo\/r=.entries) _);have gi:=g7.out.mono g3.size;have gn:=Hd gf;have gw:=Hd gl;have go:=Hd gi;have gp:=Hd g8;clear gf gl gi g3 g4 g9 g6 ga g7 d0 d1 d2 d3 g0 lmb1;obtain⟨k0,k1,k2,k3,fk⟩:=cells4 g8;clear g8;refine Zam (fun W:World=>W.cell? ⟨bx,0,none⟩=some (.int .i64 op)/\W.cell? ⟨bx,1,none⟩=some (.int .i64 a)/\W.cell? ⟨bx,2,none⟩=some (.int .i64 b)/\W.cell? ⟨bx,3,none⟩=some (.int .i64 c)) true 7
   [(0,false),(1,false),(3,false),(4,false),(5,false),(2,true),(6,false),(7,true)] (by kernel_rfl) (by kernel_rfl) ⟨k0,k1,k2,k3⟩ ?_
  simp only[planned,Zcc]
  iterate 5
   refine Zaj rfl ?_;apply Exists.intro;refine⟨fun w' hw=>?_,?_⟩
   . obtain⟨q0,q1,q2,q3⟩:=hw;go_simp;rfl
   simp only[Zae]
  refine Zb6 (R:=fun v w'=>∃ i,i<4096/\v=.pointer (some ⟨ge,i*6,none⟩)/\Below W2.drew.heap.size W2.drew w') rfl (by go_simp) ((Zmt gn.out op a b c).mono (fun e w' he=>?_)) ?_
  . obtain⟨i,hi,rfl,hb⟩:=he;obtain⟨j0,j1,j2,j3,_⟩:=cells4 ((hb.block bx (Array.getElem?_eq_some_iff.1 gp.out).1).trans gp.out);exact⟨_,rfl,⟨j0,j1,j2,j3⟩,i,hi,rfl,hb⟩
  rintro v w3-⟨i,hi,rfl,g2⟩;simp only[Zae];have g2:Below W2.heap.size W2 w3:=(Zaf W2 1).trans g2;have g1:=gn.out.below go.out g2;have gk:=gw.out.trans (Chg.of_below g2 (fun r=>r=.memo\/r=.entries) _);have gh:=go.out.mono g2.size;obtain⟨n0,n1,n2,n3,n4,n5⟩:=Znb g1.row g1.len hi
  iterate 1
   refine Zaj rfl ?_;apply Exists.intro;refine⟨fun w' hw=>?_,?_⟩
   . obtain⟨q0,q1,q2,q3⟩:=hw;go_simp;rfl
   simp only[Zae]
  refine Zck rfl rfl (Zhy (fun j=>by have:=g1.row.frozen j;exact this) n0 n1 n2 n3 n4 n5 ⟨op,a,b,c,r,true⟩) ?_;simp only[Zae];have gd:=(g1.stored hi (E:=⟨op,a,b,c,r,true⟩) HF.out).is;have gj:=Zsh (k:=i) (E:=⟨op,a,b,c,r,true⟩) gk g1.row.owner (.inr rfl);have gg:Zal o1 (set6 w3 ge i ⟨op,a,b,c,r,true⟩):=gh.mono (by simp[set6,World.setCell]);obtain⟨WF,gm⟩:∃ WF,WF=set6 w3 ge i ⟨op,a,b,c,r,true⟩:=⟨_,rfl⟩;rw[<- gm] at gd gj gg ⊢;clear n0 n1 n2 n3 n4 n5 g1 gk gh g2 k0 k1 k2 k3 fk gm;go_wp2_with fail;refine bodyPost_end (results_none rfl _ _ _) rfl ?_;exact⟨rfl,o1,gd,gj,gg⟩
open Go.RowKit
theorem RowR.setCells {o:Own}{r:Role}{e:TypeId}{size n g m cap:Nat}(ys:List Value):∀ (w:World) (k:Nat) (xs:List Value),RowR o w r e size (.slice (some ⟨g,0,none⟩) m cap) n xs->k+ys.length<=xs.length ->
 RowR o (w.setCells g k ys) r e size (.slice (some ⟨g,0,none⟩) m cap) n (xs.take k++ys++xs.drop (k+ys.length)):=by
 induction ys with
 | nil=>intro w k xs h _;simpa [World.setCells] using h
 | cons y ys ih =>
   intro w k xs h hl;simp only[List.length_cons] at hl;have h1:=ih (w.setCell ⟨g,k,none⟩ y) (k+1) (xs.set k y) (h.stored k y) (by simp;omega);have e:(xs.set k y).take (k+1)++ys++(xs.set k y).drop (k+1+ys.length)=xs.take k++(y::ys)++xs.drop (k+(y::ys).length):=by
    have e1:(xs.set k y).take (k+1)=xs.take k++[y]:=by
     rw[List.set_eq_take_append_cons_drop,if_pos (by omega),List.take_append];simp;have:min k xs.length=k:=by omega
     rw[this];simp
     exact List.take_of_length_le (by simp;omega)
    have e2:(xs.set k y).drop (k+1+ys.length)=xs.drop (k+1+ys.length):=by
     rw[List.drop_set];rw[if_pos (by omega)]
    rw[e1,e2];simp[Nat.add_assoc,Nat.add_comm 1 ys.length]
   rw[e] at h1;exact h1
theorem Chg.setCells {R:Role->Prop}{o o':Own}{w0:World}{g:Nat}{r:Role}(hg:o' g=some r)(hR:R r)(ys:List Value):∀ (w:World) (k:Nat),Chg R o o' w0 w->Chg R o o' w0 (w.setCells g k ys):=by
 induction ys with
 | nil=>intro w k h;exact h
 | cons y ys ih=>intro w k h;exact ih _ _ (h.setCell (p:=⟨g,k,none⟩) hg hR y)
theorem Zj0 {g b:Nat}(hb:b≠g)(ys:List Value):∀ (w:World) (k:Nat),(w.setCells g k ys).heap[b]?=w.heap[b]?:=by
 induction ys with
 | nil=>intro w k;rfl
 | cons y ys ih=>intro w k;rw[World.setCells,ih];exact Zai (p:=⟨g,k,none⟩) hb y
theorem Yba (w:World):(zeroValue 298).run prog w=.ok (.agg #[.int .i64 0,.int .i64 0,.int .i64 0,.int .i64 0,.int .i64 0,.bool false]) w:=by
 have s:=Zpc;cases hi:prog.info? 298 with
 | none=>rw[hi] at s;cases s
 | some i =>
   rw[hi] at s;simp only[Option.map_some,Option.some.injEq,Prod.mk.injEq] at s;obtain⟨hz,hs,hb⟩:=s;simp[zeroValue,typeInfo,hi,hz]
theorem Zy7 (n:Nat):(Builtin.zeroCells (Value.cells (.agg #[.int .i64 0,.int .i64 0,.int .i64 0,.int .i64 0,.int .i64 0,.bool false])) n).toList=(List.replicate n ent0).flatMap entV:=Zjp n
theorem Znz (w:World)(ty:TypeId)(ge cap n:Nat)(hc:∀ j,j<(n+1)*6->(w.cell? ⟨ge,j,none⟩).isSome=true)(hf:∀ j,w.frozen? ⟨ge,j,none⟩=false) :
 (Builtin.clear_ #[219] ty #[.slice (some ⟨ge,0,none⟩) (n+1) cap]).run prog w=.ok (.tuple #[]) (w.setCells ge 0 ((List.replicate (n+1) ent0).flatMap entV)):=by
 have g0:((List.replicate (n+1) ent0).flatMap entV).length=(n+1)*6:=by rw[Zbk entV 6 Zb5,List.length_replicate]
 have g1:=run_storeCells_cells (P:=prog) ge 0 ((List.replicate (n+1) ent0).flatMap entV) 0 w (fun j hj=>by rw[g0] at hj;simpa using hc j hj) (fun j _=>hf _) (fun v hv=>by
  rw[List.mem_flatMap] at hv;obtain⟨E,_,hv⟩:=hv;simp only[entV,List.mem_cons,List.not_mem_nil,or_false] at hv;rcases hv with rfl|rfl|rfl|rfl|rfl|rfl<;>rfl)
 unfold Builtin.clear_;simp only[List.getElem?_toArray,List.getElem?_cons_zero,Sem.run_bind,run_underlying underlying219,Result.andThen_ok,Yba,Zy7,g1];rfl
theorem Zqd (w:World)(ty:TypeId)(ge cap:Nat)(hc:∀ j,j<4096*6->(w.cell? ⟨ge,j,none⟩).isSome=true)(hf:∀ j,w.frozen? ⟨ge,j,none⟩=false) :
 (Builtin.clear_ #[219] ty #[.slice (some ⟨ge,0,none⟩) 4096 cap]).run prog w=.ok (.tuple #[]) (w.setCells ge 0 ((List.replicate 4096 ent0).flatMap entV)):=Znz w ty ge cap 4095 hc hf
theorem Zn0 (w:World)(ty:TypeId):(Builtin.clear_ #[219] ty #[.slice none 0 0]).run prog w=.ok (.tuple #[]) w:=by
 unfold Builtin.clear_;simp only[List.getElem?_toArray,List.getElem?_cons_zero,Sem.run_bind,run_underlying underlying219,Result.andThen_ok];rfl
theorem Zsz (o:Own)(mb:Nat)(F G:Phi)(w:World)(h:Zct o w mb F)(hlt:Zal o w) :
 Calls prog 181 #[.pointer (some ⟨mb,0,none⟩)] w fun x w'=>x=.returned (.tuple #[])/\Zct o w' mb G/\Chg (· = .entries) o o w w'/\Zal o w':=by
 obtain⟨ve,asked,found,g3,hv⟩:=h.ex;have g1:=h.own;obtain⟨c0,c1,c2,c3,f0⟩:=cells4 g3;rcases hv with rfl|⟨ge,cap,l,rfl,hl,g0,g8⟩
 .
  have hr:=Zn0 w 0;have HF:=Hd (show Zct o w mb G from ⟨h.own,_,_,_,g3,.inl rfl⟩);have HL:=Hd hlt;clear h hlt g3 g1
  go_enter func181,ntmps181
  go_wp2_with fail;refine bodyPost_end (results_none rfl _ _ _) rfl ?_;exact⟨rfl,HF.out,Chg.refl _ _ _,HL.out⟩
 .
  have hg:=g0.owner;have g7:mb≠ge:=fun e=>by subst e;rw[hg] at g1;cases g1
  have g2:(l.flatMap entV).length=4096*6:=by rw[Zbk entV 6 Zb5,hl]
  have hr:=Zqd w 0 ge cap (fun j hj=>by rw[g0.cell j (by rw[g2];exact hj),List.getElem?_eq_getElem (by rw[g2];exact hj)];rfl) g0.frozen;obtain⟨W,hW⟩:∃ W,W=w.setCells ge 0 ((List.replicate 4096 ent0).flatMap entV):=⟨_,rfl⟩;rw[<- hW] at hr;have g5:((List.replicate 4096 ent0).flatMap entV).length=4096*6:=by rw[Zbk entV 6 Zb5,List.length_replicate]
  have g4:RowR o W .entries 298 6 (.slice (some ⟨ge,0,none⟩) 4096 cap) 4096 ((List.replicate 4096 ent0).flatMap entV):=by
   have:=RowR.setCells ((List.replicate 4096 ent0).flatMap entV) w 0 _ g0 (by rw[g5,g2];omega);rw[List.take_zero,List.nil_append,Nat.zero_add,List.drop_of_length_le (by rw[g5,g2];exact Nat.le_refl _),List.append_nil,<- hW] at this;exact this
  have g6:Chg (· = .entries) o o w W:=by rw[hW];exact Chg.setCells (R:=(· = .entries)) hg rfl _ _ _ (Chg.refl _ _ _)
  have HF:=Hd (show Zct o W mb G from ⟨g1,_,_,_,(by rw[hW];exact(Zj0 g7 _ _ _).trans g3),.inr ⟨ge,cap,_,rfl,List.length_replicate,g4,Zmh G _⟩⟩);have HL:=Hd (hlt.mono g6.size);have HC:=Hd g6;clear h hlt g3 g1 hl g0 g8 hg g2 g5 g4 g6 hW g7
  go_enter func181,ntmps181
  go_wp2_with fail;refine bodyPost_end (results_none rfl _ _ _) rfl ?_;exact⟨rfl,HF.out,HC.out,HL.out⟩
open Go.RowKit
theorem Zyd (o:Own)(F:Phi)(w:World)(hlt:Zal o w) :
 Calls prog 105 #[.int .i64 4096] w fun x w'=>∃ mb o',x=.returned (.pointer (some ⟨mb,0,none⟩))/\Zct o' w' mb F/\Chg (· = .memo) o o' w w'/\Zal o' w'/\w.heap.size<=mb:=by
 have HL:=Hd hlt;clear hlt
 go_enter func105,ntmps105
 go_wp2_with fail;go_ret;exact⟨w.heap.size,Zcx o w.heap.size .memo,rfl,⟨Zbg _ _ _,_,_,_,heap_alloc_new w _,.inl rfl⟩,(Chg.refl _ o w).allocR HL.out _ rfl,HL.out.allocR _ _,Nat.le_refl _⟩
theorem Zh8 {P:Program}(w:World)(T:TypeId):(Instr.makeMap T none).run P w=.ok (.map (some w.heap.size)) (w.alloc (.map #[] 0)):=rfl
theorem Zyh (o:Own)(v:Nat)(w:World)(hlt:Zal o w) :
 Calls prog 157 #[] w fun x w'=>∃ t o',x=.returned (.pointer (some ⟨t,0,none⟩))/\Zdk o' w' v t (fun _=>none)/\Chg (fun r=>r=.tab v\/r=.tmap v) o o' w w'/\Zal o' w'/\w.heap.size<=t:=by
 have HL:=Hd hlt;have hm:=Zh8 (P:=prog) w 265;clear hlt
 go_enter func157,ntmps157
 go_wp2_with fail;go_ret;have g0:=HL.out.allocR (.map #[] 0) (.tmap v);have g4:=((Chg.refl (fun r=>r=.tab v\/r=.tmap v) o w).allocR (r:=.tmap v) HL.out (.map #[] 0) (.inr rfl));have g2:=g0.allocR (.cells #[.map (some w.heap.size)] 267) (.tab v);have g3:=g4.allocR (r:=.tab v) g0 (.cells #[.map (some w.heap.size)] 267) (.inl rfl);have hz:(w.alloc (.map #[] 0)).heap.size=w.heap.size+1:=by simp
 have g1:w.heap.size<(w.alloc (.map #[] 0)).heap.size:=by rw[hz];omega
 refine⟨w.heap.size+1,_,rfl,⟨by rw[<- hz];exact Zbg _ _ _,w.heap.size,[],by rw[<- hz];exact heap_alloc_new _ _,Zdd g0 (Nat.le_refl _) (Zbg _ _ _),⟨⟨#[],0,(Go.heap_alloc_old _ _ g1).trans (heap_alloc_new w _),rfl,by simp,by simp⟩,by simp⟩,fun k=>rfl⟩,g3,g2,by omega⟩
open Go.RowKit
section
variable {P:Program}{S:World->Prop}{Q:Exit->Act->World->Prop}{m:Nat}
structure Left (P:Program)(l:List Oper)(Q:Exit->Act->World->Prop)(S:World->Prop)(m f:Nat)(L:Array Bool)(a:Act)(w:World):Prop where
 goes:Closed l.toArray L->S w->Zlp P l.toArray (NP Q) S m f L a w
theorem Zbs {id:Nat}{a:Act}{w:World}{l:List Oper}(S:World->Prop)(m:Nat)(hm:P.follows .mixedOrders=true)(hS:S w.drew)
 (h:Left P l Q S m l.length (Array.replicate l.toArray.size false) a w.drew):(Code.region id l.toArray true).wp P Q a w :=
 Zsr (wp_region_any hm (Zhr _ _ _ _ (h.goes (Zgt _) hS)))
theorem Zv3 {l:List Oper}{f:Nat}{L:Array Bool}{a:Act}{w:World}(i:Nat)(o:Oper)(v:Value)(hi:l[i]?=some o)
 (hB:(Region.noSelect l.toArray&&(Region.ready .any l.toArray L).contains i&&Region.free .any l.toArray L i&&(decide (l.toArray.size<=m)||reaches l.toArray l.toArray.size i m))=true)
 (hy:∀ w,S w->YieldsIf P l.toArray S o v a) (h:Left P l Q S m f (L.setIfInBounds i true) (a.put o.dst v) w):Left P l Q S m (f+1) L a w:=by
 refine⟨fun hc hS=>?_⟩;simp only[Bool.and_eq_true] at hB;obtain⟨⟨⟨hs,hr⟩,hf⟩,hm⟩:=hB;have g1:l.toArray[i]?=some o:=by simpa using hi
 have g0:i∈Region.ready .any l.toArray L:=by simpa using hr
 exact Zhc g1 hs (fun _ _ _ _ _ h=>h) hm f L a w hc (Region.free_spec g1 hf) g0 (hy w hS) hS (h.goes (hc.set g0) hS)
theorem Zac {l:List Oper}{f:Nat}{L:Array Bool}{a:Act}{w:World}(i:Nat){o:Oper}(hi:l[i]?=some o)(hg:o.guard=none)
 (hB:(Region.noSelect l.toArray&&(Region.ready .any l.toArray L).contains i&&Region.free .any l.toArray L i&&(decide (l.toArray.size<=m)||reaches l.toArray l.toArray.size i m))=true)
 (h:∃ v,(∀ w,S w->(execOp a.eval o).run P w=.ok (.value v) w)/\Left P l Q S m f (L.setIfInBounds i true) (a.put o.dst v) w):Left P l Q S m (f+1) L a w:=by
 obtain⟨v,h1,h2⟩:=h;exact Zv3 i o v hi hB (fun w _=>.inl ⟨by simp[Region.wanted,hg],h1⟩) h2
theorem Zan {l:List Oper}{f:Nat}{L:Array Bool}{a:Act}{w:World}(is:List Nat)(hr:(decide (Region.ready .any l.toArray L=is) && !is.isEmpty)=true)
 (h:∀ i∈is,S w->∀ o,l[i]?=some o->Region.wanted o (yielded l.toArray a.tmps)=true/\o.wp P a w (fun a' w'=>S w'/\Left P l Q S m f (L.setIfInBounds i true) a' w') (NP Q)):Left P l Q S m (f+1) L a w:=by
 refine⟨fun hc hS=>?_⟩;simp only[Bool.and_eq_true,decide_eq_true_eq] at hr;obtain⟨hr,g1⟩:=hr;refine⟨fun h0=>(by rw[h0] at hr;subst hr;simp at g1),fun i hi=>?_⟩;have g2:i∈is:=by rw[<- hr];exact hi
 obtain⟨_,o,ho,_⟩:=mem_ready.1 hi;obtain⟨hw,g0⟩:=h i g2 hS o (by simpa using ho);unfold wpOp;rw[ho];simp only[hw,if_true];left;refine Oper.wp_mono ?_ g0;intro a' w' ⟨h1,h2⟩;exact⟨.inr h1,h2.goes (hc.set hi) h1⟩
theorem Zbm {l:List Oper}{L:Array Bool}{a:Act}{w:World}(hr:(Region.ready .any l.toArray L).isEmpty=true)(h:Q .normal a w):Left P l Q S m 0 L a w :=
 ⟨fun _ _=>⟨by simpa [List.isEmpty_iff] using hr,h⟩⟩
theorem Zay {o:Oper}{a:Act}{w w':World}{v:Value}{K:Act->World->Prop}{Q:Exit->Act->World->Prop}(he:(execOp a.eval o).run P w=.ok (.value v) w')(h:K (a.put o.dst v) w'):o.wp P a w K Q:=by
 unfold Oper.wp;rw[he];exact h
end
open Go.RowKit
def pool0 (room:Nat):Zao:=⟨room,[rn0],[false],[],0⟩
abbrev Zbw:Obj:=.cells #[.int .i64 0,.int .i64 0,.int .i64 0,.int .i64 0,.int .i64 0] 254
abbrev Zbx:Obj:=.cells #[.bool false] 4
theorem Zsc {o:Own}{w:World}{pb gs gt room:Nat}(hr:room<=1048576)(hop:o pb=some .pool)(hos:o gs=some .slots)(hot:o gt=some .taken)
 (hpb:w.heap[pb]?=some (.cells #[.int .i64 room,.slice (some ⟨gs,0,none⟩) 1 1,.slice (some ⟨gt,0,none⟩) 1 1,.slice none 0 0,.int .i64 0] 264 (0,0)))
 (hs:w.heap[gs]?=some Zbw) (ht:w.heap[gt]?=some Zbx):Zat o w pb (pool0 room):=by
 refine⟨hop,⟨_,_,_,hpb,⟨rfl,.inr ⟨gs,1,_,rfl,hos,hs,Nat.le_refl _,by decide,by decide,rfl⟩⟩,⟨rfl,.inr ⟨gt,1,_,rfl,hot,ht,Nat.le_refl _,by decide,by decide,rfl⟩⟩,RowR.nil _ _ _ _ _⟩,rfl,hr,by simp[pool0],rfl,by simp[pool0],?_,rfl,by simp[pool0],by simp[pool0],?_⟩
 .
  intro i hi;have:(pool0 room).tk i=false:=by
   cases i<;>rfl
  rw[this] at hi;cases hi
 . simp[pool0,Zaw,Zao.tk]
theorem Ztp:madeCells (Value.cells (.agg #[.int .i64 0,.int .i64 0,.int .i64 0,.int .i64 0,.int .i64 0])) (Int.toNat 1*5)=#[.int .i64 0,.int .i64 0,.int .i64 0,.int .i64 0,.int .i64 0]:=by kernel_rfl
theorem Ztq:madeCells (Value.cells (.bool false)) (Int.toNat 1*1)=#[.bool false]:=by kernel_rfl
theorem Zn1 (w:World):(Instr.makeSlice 262 (.int .i64 1) (.int .i64 1)).run prog w=.ok (.slice (some ⟨w.heap.size,0,none⟩) 1 1) (w.alloc Zbw):=by
 have s:=Zj8;cases hi:prog.info? 254 with
 | none=>rw[hi] at s;cases s
 | some i =>
   rw[hi] at s;simp only[Option.map_some,Option.some.injEq,Prod.mk.injEq] at s;obtain⟨hz,hs,hb⟩:=s;have:=run_make (P:=prog) w 262 254 i _ underlying262 hi hz .i64 .i64 1 1 (by decide) (by decide) (by rw[hb];decide) (by decide);rw[hs,Ztp] at this;exact this
theorem Zn2 (w:World):(Instr.makeSlice 55 (.int .i64 1) (.int .i64 1)).run prog w=.ok (.slice (some ⟨w.heap.size,0,none⟩) 1 1) (w.alloc Zbx):=by
 have s:=Znl;cases hi:prog.info? 4 with
 | none=>rw[hi] at s;cases s
 | some i =>
   rw[hi] at s;simp only[Option.map_some,Option.some.injEq,Prod.mk.injEq] at s;obtain⟨hz,hs,hb⟩:=s;have:=run_make (P:=prog) w 55 4 i _ underlying55 hi hz .i64 .i64 1 1 (by decide) (by decide) (by rw[hb];decide) (by decide);rw[hs,Ztq] at this;exact this
abbrev NewR (r:Role):Prop:=r=.pool\/r=.slots\/r=.taken
theorem made2 {o:Own}{w:World}(hlt:Zal o w)(A B C:Obj)(ra rb:Role)(h1:NewR ra)(h2:NewR rb) :
 ∃ o',o' w.heap.size=some ra/\o' (w.heap.size+1)=some rb/\o' (w.heap.size+2)=some .pool/\Chg NewR o o' w (((w.alloc A).alloc B).alloc C)/\Zal o' (((w.alloc A).alloc B).alloc C) /\
  (((w.alloc A).alloc B).alloc C).heap[w.heap.size]?=some A/\(((w.alloc A).alloc B).alloc C).heap[w.heap.size+1]?=some B/\(((w.alloc A).alloc B).alloc C).heap[w.heap.size+2]?=some C:=by
 have z1:(w.alloc A).heap.size=w.heap.size+1:=by simp
 have z2:((w.alloc A).alloc B).heap.size=w.heap.size+2:=by simp
 have l1:=hlt.allocR A ra;have c1:=(Chg.refl NewR o w).allocR hlt A h1;have l2:=l1.allocR B rb;have c2:=c1.allocR l1 B h2;have l3:=l2.allocR C .pool;have c3:=c2.allocR l2 C (show NewR .pool from .inl rfl);refine⟨_,?_,?_,?_,c3,l3,?_,?_,?_⟩
 . exact Zdd l2 (Nat.le_refl _) (Zdd l1 (Nat.le_refl _) (Zbg _ _ _))
 . rw[<- z1];exact Zdd l2 (Nat.le_refl _) (Zbg _ _ _)
 . rw[<- z2];exact Zbg _ _ _
 . rw[Go.heap_alloc_old _ _ (by omega),Go.heap_alloc_old _ _ (by omega)];exact heap_alloc_new w A
 . rw[Go.heap_alloc_old _ _ (by omega),<- z1];exact heap_alloc_new _ B
 . rw[<- z2];exact heap_alloc_new _ C
theorem Zye (o:Own)(room:Nat)(w:World)(hlt:Zal o w)(h1:1<=room)(h2:room<=1048576) :
 Calls prog 155 #[.int .i64 room] w fun x w'=>∃ pb o',x=.returned (.tuple #[.pointer (some ⟨pb,0,none⟩),.int .i64 0])/\Zat o' w' pb (pool0 room)/\Chg NewR o o' w w'/\Zal o' w'/\w.heap.size<=pb:=by
 have HL:=Hd hlt;have b1:(1:Int)<=room:=by omega
 have b2:(room:Int)<=1048576:=by omega
 have g2:=Hd Zn1;have g1:=Hd Zn2;clear hlt
 go_enter func155,ntmps155
 go_upto_region 3 with fail;refine Zbs (fun W=>True) 7 (by kernel_rfl) trivial ?_;refine Zac 0 rfl rfl (by kernel_rfl) ?_;apply Exists.intro;refine⟨fun w' hw=>?_,?_⟩
 . go_simp;rfl
 simp only[Zae];refine Zan [1,2] (by kernel_rfl) (fun i hi hS o ho=>?_);simp only[Zbf] at hi;rcases hi with rfl|rfl
 .
  simp only[Za2] at ho;subst ho;refine⟨rfl,?_⟩;have hm:=g2.out w.drew;rw[show w.drew.heap.size=w.heap.size from rfl] at hm;refine Zay (v:=.slice (some ⟨w.heap.size,0,none⟩) 1 1) (w':=w.drew.alloc Zbw) (by go_simp) ⟨trivial,?_⟩;simp only[Zae];refine Zan [2] (by kernel_rfl) (fun i hi hS o ho=>?_);simp only[Zbf] at hi;subst hi;simp only[Za2] at ho;subst ho;refine⟨rfl,?_⟩;have hm:(Instr.makeSlice 55 (.int .i64 1) (.int .i64 1)).run prog (w.alloc Zbw).drew=.ok (.slice (some ⟨w.heap.size+1,0,none⟩) 1 1) ((w.alloc Zbw).alloc Zbx).drew:=by
   have:=g1.out (w.alloc Zbw).drew;rw[show (w.alloc Zbw).drew.heap.size=w.heap.size+1 from World.size_alloc w _] at this;exact this
  refine Zay (v:=.slice (some ⟨w.heap.size+1,0,none⟩) 1 1) (w':=((w.alloc Zbw).alloc Zbx).drew) (by go_simp) ⟨trivial,?_⟩;simp only[Zae];refine Zac 3 rfl rfl (by kernel_rfl) ?_;apply Exists.intro;refine⟨fun w' hw=>?_,?_⟩
  . go_simp;rfl
  simp only[Zae];refine Zan [4] (by kernel_rfl) (fun i hi hS o ho=>?_);simp only[Zbf] at hi;subst hi;simp only[Za2] at ho;subst ho;refine⟨rfl,?_⟩;have hz:((w.alloc Zbw).alloc Zbx).heap.size=w.heap.size+2:=by simp
  refine Zay (v:=.pointer (some ⟨w.heap.size+2,0,none⟩)) (w':=(((w.alloc Zbw).alloc Zbx).alloc (.cells #[.int .i64 room,.slice (some ⟨w.heap.size,0,none⟩) 1 1,.slice (some ⟨(w.heap.size+1),0,none⟩) 1 1,.slice none 0 0,.int .i64 0] 264)).drew) (by go_simp) ⟨trivial,?_⟩;simp only[Zae];refine Zac 5 rfl rfl (by kernel_rfl) ?_;apply Exists.intro;refine⟨fun w' hw=>?_,?_⟩
  . go_simp;rfl
  simp only[Zae];refine Zac 6 rfl rfl (by kernel_rfl) ?_;apply Exists.intro;refine⟨fun w' hw=>?_,?_⟩
  . go_simp;rfl
  simp only[Zae];refine Zbm (by kernel_rfl) ?_;obtain⟨o',q1,q2,q3,q4,q5,q6,q7,q8⟩:=made2 HL.out Zbw Zbx (.cells #[.int .i64 room,.slice (some ⟨w.heap.size,0,none⟩) 1 1,.slice (some ⟨(w.heap.size+1),0,none⟩) 1 1,.slice none 0 0,.int .i64 0] 264) .slots .taken (.inr (.inl rfl)) (.inr (.inr rfl));have g0:Zat o' (((w.alloc Zbw).alloc Zbx).alloc (.cells #[.int .i64 room,.slice (some ⟨w.heap.size,0,none⟩) 1 1,.slice (some ⟨(w.heap.size+1),0,none⟩) 1 1,.slice none 0 0,.int .i64 0] 264)).drew (w.heap.size+2) (pool0 room):=Zsc h2 q3 q1 q2 q8 q6 q7;have q4':=q4.drew;have q5':Zal o' (((w.alloc Zbw).alloc Zbx).alloc (.cells #[.int .i64 room,.slice (some ⟨w.heap.size,0,none⟩) 1 1,.slice (some ⟨(w.heap.size+1),0,none⟩) 1 1,.slice none 0 0,.int .i64 0] 264)).drew:=q5;clear q1 q2 q3 q4 q5 q6 q7 q8 hm hz;go_wp2_with fail
  go_ret2
  exact⟨w.heap.size+2,o',rfl,g0,q4',q5',by omega⟩
 .
  simp only[Za2] at ho;subst ho;refine⟨rfl,?_⟩;have hm:=g1.out w.drew;rw[show w.drew.heap.size=w.heap.size from rfl] at hm;refine Zay (v:=.slice (some ⟨w.heap.size,0,none⟩) 1 1) (w':=w.drew.alloc Zbx) (by go_simp) ⟨trivial,?_⟩;simp only[Zae];refine Zan [1] (by kernel_rfl) (fun i hi hS o ho=>?_);simp only[Zbf] at hi;subst hi;simp only[Za2] at ho;subst ho;refine⟨rfl,?_⟩;have hm:(Instr.makeSlice 262 (.int .i64 1) (.int .i64 1)).run prog (w.alloc Zbx).drew=.ok (.slice (some ⟨w.heap.size+1,0,none⟩) 1 1) ((w.alloc Zbx).alloc Zbw).drew:=by
   have:=g2.out (w.alloc Zbx).drew;rw[show (w.alloc Zbx).drew.heap.size=w.heap.size+1 from World.size_alloc w _] at this;exact this
  refine Zay (v:=.slice (some ⟨w.heap.size+1,0,none⟩) 1 1) (w':=((w.alloc Zbx).alloc Zbw).drew) (by go_simp) ⟨trivial,?_⟩;simp only[Zae];refine Zac 3 rfl rfl (by kernel_rfl) ?_;apply Exists.intro;refine⟨fun w' hw=>?_,?_⟩
  . go_simp;rfl
  simp only[Zae];refine Zan [4] (by kernel_rfl) (fun i hi hS o ho=>?_);simp only[Zbf] at hi;subst hi;simp only[Za2] at ho;subst ho;refine⟨rfl,?_⟩;have hz:((w.alloc Zbx).alloc Zbw).heap.size=w.heap.size+2:=by simp
  refine Zay (v:=.pointer (some ⟨w.heap.size+2,0,none⟩)) (w':=(((w.alloc Zbx).alloc Zbw).alloc (.cells #[.int .i64 room,.slice (some ⟨(w.heap.size+1),0,none⟩) 1 1,.slice (some ⟨w.heap.size,0,none⟩) 1 1,.slice none 0 0,.int .i64 0] 264)).drew) (by go_simp) ⟨trivial,?_⟩;simp only[Zae];refine Zac 5 rfl rfl (by kernel_rfl) ?_;apply Exists.intro;refine⟨fun w' hw=>?_,?_⟩
  . go_simp;rfl
  simp only[Zae];refine Zac 6 rfl rfl (by kernel_rfl) ?_;apply Exists.intro;refine⟨fun w' hw=>?_,?_⟩
  . go_simp;rfl
  simp only[Zae];refine Zbm (by kernel_rfl) ?_;obtain⟨o',q1,q2,q3,q4,q5,q6,q7,q8⟩:=made2 HL.out Zbx Zbw (.cells #[.int .i64 room,.slice (some ⟨(w.heap.size+1),0,none⟩) 1 1,.slice (some ⟨w.heap.size,0,none⟩) 1 1,.slice none 0 0,.int .i64 0] 264) .taken .slots (.inr (.inr rfl)) (.inr (.inl rfl));have g0:Zat o' (((w.alloc Zbx).alloc Zbw).alloc (.cells #[.int .i64 room,.slice (some ⟨(w.heap.size+1),0,none⟩) 1 1,.slice (some ⟨w.heap.size,0,none⟩) 1 1,.slice none 0 0,.int .i64 0] 264)).drew (w.heap.size+2) (pool0 room):=Zsc h2 q3 q2 q1 q8 q7 q6;have q4':=q4.drew;have q5':Zal o' (((w.alloc Zbx).alloc Zbw).alloc (.cells #[.int .i64 room,.slice (some ⟨(w.heap.size+1),0,none⟩) 1 1,.slice (some ⟨w.heap.size,0,none⟩) 1 1,.slice none 0 0,.int .i64 0] 264)).drew:=q5;clear q1 q2 q3 q4 q5 q6 q7 q8 hm hz;go_wp2_with fail
  go_ret2
  exact⟨w.heap.size+2,o',rfl,g0,q4',q5',by omega⟩
open Go.RowKit
structure Zag where
 vars:List Nat
 level:List Nat
 pool:Zao
 tab:Nat->Nat×Nat->Option Nat
 counts:List Nat
 dead:Nat
structure Za7 where
 lb:Nat
 pb:Nat
 vv:Value
 vl:Value
 vt:Value
 vc:Value
 ts:List Nat
def ptrV (b:Nat):Value:=.pointer (some ⟨b,0,none⟩)
structure Zap (o:Own)(w:World)(sb:Nat)(d:Zag)(s:Za7):Prop where
 own:o sb=some .store
 ownl:o s.lb=some .levels
 blk:w.heap[sb]?=some (.cells #[.pointer (some ⟨s.lb,0,none⟩),.pointer (some ⟨s.pb,0,none⟩),s.vt,s.vc,.int .i64 d.dead] 193 (0,0))
 lev:w.heap[s.lb]?=some (.cells #[s.vv,s.vl] 195 (0,0))
 vars:RowR o w .vars 3 1 s.vv d.vars.length (d.vars.map nat64)
 level:RowR o w .level 3 1 s.vl d.level.length (d.level.map nat64)
 pool:Zat o w s.pb d.pool
 tabs:RowR o w .tabs 217 1 s.vt s.ts.length (s.ts.map ptrV)
 tab:∀ v,v<s.ts.length->Zdk o w v (s.ts.getD v 0) (d.tab v)
 counts:RowR o w .counts 3 1 s.vc d.counts.length (d.counts.map nat64)
 len:d.level.length=d.vars.length
 tlen:s.ts.length=d.vars.length
def Zax (o:Own)(w:World)(sb:Nat)(d:Zag):Prop:=∃ s,Zap o w sb d s
theorem Zap.below {o:Own}{w w':World}{sb:Nat}{d:Zag}{s:Za7}(h:Zap o w sb d s)(hlt:Zal o w)(hb:Below w.heap.size w w'):Zap o w' sb d s :=
 ⟨h.own,h.ownl,(hb.block sb (hlt _ _ h.own)).trans h.blk,(hb.block s.lb (hlt _ _ h.ownl)).trans h.lev,h.vars.below hlt hb,h.level.below hlt hb,h.pool.below hb hlt,h.tabs.below hlt hb,fun v hv=>(h.tab v hv).below hb hlt,h.counts.below hlt hb,h.len,h.tlen⟩
def Zag.levelOf (d:Zag)(v:Nat):Int:=if v<d.level.length then (d.level.getD v 0:Nat) else -1
theorem cells2 {w:World}{g:Nat}{a b:Value}{T:TypeId}(h:w.heap[g]?=some (.cells #[a,b] T (0,0))):w.cell? ⟨g,0,none⟩=some a/\w.cell? ⟨g,1,none⟩=some b/\(∀ k,w.frozen? ⟨g,k,none⟩=false) :=
 ⟨by rw[cell_of_row w g 0 _ _ _ h];rfl,by rw[cell_of_row w g 1 _ _ _ h];rfl,fun k=>by simp[World.frozen?,h]⟩
theorem Zk0 {o:Own}{w:World}{sb:Nat}{d:Zag}{s:Za7}(h:Zap o w sb d s)(v:Nat)(hbig:d.level.length<1000000) :
 Calls prog 185 #[.pointer (some ⟨s.lb,0,none⟩),.int .i64 v] w fun x w'=>x=.returned (.int .i64 (d.levelOf v))/\w=w':=by
 obtain⟨c0,c1,_⟩:=cells2 h.lev;obtain⟨a,cap,g1,_⟩:=h.level.slice;rw[g1] at c1;have g0:=h.level;rw[g1] at g0
 by_cases hv:v<d.level.length
 .
  obtain⟨g,cap',he,_⟩:=g0.shape (by omega);cases he;have hx:=g0.cell v (by simpa using hv);have g2:(d.level.map nat64)[v]?=some (.int .i64 ((d.level.getD v 0:Nat):Int)):=by
   rw[List.getElem?_map,List.getElem?_eq_getElem hv];simp[nat64,List.getD,hv]
  rw[g2] at hx;have g3:(v:Int)<d.level.length:=by omega
  have hr:d.levelOf v=((d.level.getD v 0:Nat):Int):=by simp[Zag.levelOf,hv]
  rw[hr];obtain⟨L,hL⟩:∃ L:Int,L=((d.level.getD v 0:Nat):Int):=⟨_,rfl⟩;rw[<- hL] at hx ⊢;clear h g0 g1 g2 hr hL
  go_enter func185,ntmps185
  go_wp2_with fail;go_ret;exact⟨rfl,rfl⟩
 .
  have g3:(d.level.length:Int)<=v:=by omega
  have hr:d.levelOf v = -1:=by simp[Zag.levelOf,hv]
  rw[hr];clear h g0 g1 hr
  go_enter func185,ntmps185
  go_wp2_with fail;go_ret;exact⟨rfl,rfl⟩
theorem Zcf {o:Own}{w:World}{sb:Nat}{d:Zag}{s:Za7}(h:Zap o w sb d s)(v:Nat)(hbig:d.level.length<1000000) :
 Calls prog 136 #[.pointer (some ⟨sb,0,none⟩),.int .i64 v] w fun x w'=>x=.returned (.int .i64 (d.levelOf v))/\w=w':=by
 obtain⟨c0,c1,c2,c3,c4,f0⟩:=cells5 h.blk;have HC:=Hd (Zk0 h v hbig);clear h
 go_enter func136,ntmps136
 go_wp2_with fail;refine HC.out.mono ?_;rintro x w' ⟨rfl,rfl⟩;go_wp2_with fail;go_ret;exact⟨rfl,rfl⟩
open Go.RowKit
def Zao.has (p:Zao)(i:Nat):RN:=if p.tk i=true then p.nd i else rn0
theorem Zc8 (o:Own)(pb:Nat)(p:Zao)(i:Nat)(w:World)(h:Zat o w pb p)(hlt:Zal o w) :
 Calls prog 194 #[.pointer (some ⟨pb,0,none⟩),.int .i64 i] w fun x w'=>x=.returned (.tuple #[Za6 (p.has i),.bool (p.tk i)])/\Below w.heap.size w w':=by
 by_cases hi:p.tk i=true
 . have:=Zmu o pb p i w h hlt hi;unfold Zao.has;rw[if_pos hi,hi];exact this
 .
  have g0:p.tk i=false:=by simpa using hi
  have:=Zwp o pb p i w h hlt g0;unfold Zao.has;rw[if_neg hi,g0];exact this
theorem Ybl (k:Nat):(((k:Nat):Int) == 0)=decide (k=0):=by
 cases k with
 | zero=>rfl
 | succ n=>simp;omega
theorem Zas {P:Program}{o:Oper}{a:Act}{w:World}{v:Value}{f:FuncId}{args:Array Value}{K:Act->World->Prop}{Q:Exit->Act->World->Prop}{R:World->Prop}(he:(execOp a.eval o).run P w=.ok (.enter f args) w)
 (hc:Calls P f args w fun e w'=>e=.returned v/\R w') (h:∀ w',R w'->K (a.put o.dst v) w'):o.wp P a w K Q:=by
 unfold Oper.wp;simp only[he,Oper.upon];exact hc.mono fun e w' ⟨h1,h2⟩=>by subst h1;exact h w' h2
theorem Zbd {P:Program}{o:Oper}{a:Act}{w w':World}{t:TypeId}{s x:Operand}{K:Act->World->Prop}{Q:Exit->Act->World->Prop}(ho:o.op=.store t s x)
 (hr:(Instr.storeAt t (a.eval s) (a.eval x)).run P w=.ok () w') (h:K (a.put o.dst undef) w'):o.wp P a w K Q:=by
 unfold Oper.wp;rw[Zi5 ho hr];exact h
theorem Zbc {w W:World}{bx:Nat}(hb:Below w.heap.size w W)(hge:w.heap.size<=bx)(n:RN):Below w.heap.size w (set5 W bx 0 n) :=
 ((((hb.setCell (p:=⟨bx,0,none⟩) hge _).setCell (p:=⟨bx,1,none⟩) hge _).setCell (p:=⟨bx,2,none⟩) hge _).setCell (p:=⟨bx,3,none⟩) hge _).setCell (p:=⟨bx,4,none⟩) hge _
theorem Zbr {W:World}{bx:Nat}(h:W.heap[bx]?=some (.cells #[.int .i64 0,.int .i64 0,.int .i64 0,.int .i64 0,.int .i64 0] 254 (0,0)))(n:RN) :
 (set5 W bx 0 n).heap[bx]?=some (.cells #[.int .i64 n.id,.int .i64 n.v,.int .i64 n.lo,.int .i64 n.hi,.int .i64 n.refs] 254 (0,0)) :=
 Zah (k:=4) (Zah (k:=3) (Zah (k:=2) (Zah (k:=1) (Zah (k:=0) h _) _) _) _) _
theorem Zbl {o:Own}{w:World}{sb:Nat}{d:Zag}{s:Za7}(h:Zap o w sb d s)(hlt:Zal o w)(f:Nat)(hf:f<eMax) :
 Calls prog 188 #[.pointer (some ⟨sb,0,none⟩),.int .i64 f] w fun x w'=>x=.returned (.bool (decide (enode f=0)||d.pool.tk (enode f)))/\Below w.heap.size w w':=by
 obtain⟨c0,c1,c2,c3,c4,f0⟩:=cells5 h.blk;have lsb:sb<w.heap.size:=Zaa c0;have hz:(0:Int)<=f:=by omega
 have g5:Hid (∀ W:World,Below w.heap.size w W->W.cell? ⟨sb,1,none⟩=some (.pointer (some ⟨s.pb,0,none⟩))):=Hd (fun W hb=>(hb.cell (p:=⟨sb,1,none⟩) lsb).trans c1);have gc:Hid (∀ W:World,Below w.heap.size w W->Calls prog 194 #[.pointer (some ⟨s.pb,0,none⟩),.int .i64 (enode f:Nat)] W fun x w'=>x=.returned (.tuple #[Za6 (d.pool.has (enode f)),.bool (d.pool.tk (enode f))])/\Below W.heap.size W w') :=
  Hd (fun W hb=>Zc8 o s.pb d.pool (enode f) W (h.pool.below hb hlt) (hlt.mono hb.size))
 have HN:=Hd (fun W=>Zcv f W hf);obtain⟨N,hN⟩:∃ N,N=d.pool.has (enode f):=⟨_,rfl⟩;obtain⟨B,hB⟩:∃ B,B=d.pool.tk (enode f):=⟨_,rfl⟩;obtain⟨k,hk⟩:∃ k,k=enode f:=⟨_,rfl⟩;rw[<- hN,<- hB,<- hk] at gc;rw[<- hk] at HN;rw[<- hB,<- hk];obtain⟨z,gd⟩:∃ z:Bool,z=decide (k=0):=⟨_,rfl⟩;have gq:(((k:Nat):Int) == 0)=z:=by rw[gd];exact Ybl k
 rw[<- gd];clear h hlt c0 c1 c2 c3 c4 f0 hN hB hk hf gd
 go_enter func188,ntmps188
 go_upto_region 3 with fail;refine Zbs (fun W:World=>Below w.heap.size w W) 13 (by kernel_rfl) (Zaf w 1) ?_;refine Zac 0 rfl rfl (by kernel_rfl) ?_;apply Exists.intro;refine⟨fun w' hw=>?_,?_⟩
 . have g9:=g5.out w' hw;go_simp;rfl
 simp only[Zae];refine Zac 1 rfl rfl (by kernel_rfl) ?_;apply Exists.intro;refine⟨fun w' hw=>?_,?_⟩
 . have g9:=g5.out w' hw;go_simp;rfl
 simp only[Zae];refine Zac 2 rfl rfl (by kernel_rfl) ?_;apply Exists.intro;refine⟨fun w' hw=>?_,?_⟩
 . have g9:=g5.out w' hw;go_simp;rfl
 simp only[Zae];refine Zac 3 rfl rfl (by kernel_rfl) ?_;apply Exists.intro;refine⟨fun w' hw=>?_,?_⟩
 . have g9:=g5.out w' hw;go_simp;rfl
 simp only[Zae];refine Zac 4 rfl rfl (by kernel_rfl) ?_;apply Exists.intro;refine⟨fun w' hw=>?_,?_⟩
 . have g9:=g5.out w' hw;go_simp;rfl
 simp only[Zae];refine Zan [5,10] (by kernel_rfl) (fun i hi hS o ho=>?_);simp only[Zbf] at hi;rcases hi with rfl|rfl
 .
  skip
  simp only[Za2] at ho;subst ho;refine⟨rfl,?_⟩;refine Zas (v:=(.int .i64 k)) (R:=fun w'=>w.drew=w') (by go_simp) (HN.out _) ?_;rintro w' rfl;refine⟨(Zaf w 1),?_⟩;simp only[Zae];refine Zan [6,10] (by kernel_rfl) (fun i hi hS o ho=>?_);simp only[Zbf] at hi;rcases hi with rfl|rfl
  .
   skip
   simp only[Za2] at ho;subst ho;refine⟨rfl,?_⟩;refine Zas (v:=(.tuple #[Za6 N,.bool B])) (R:=fun w'=>Below (w.drew).heap.size (w.drew) w') (by go_simp) (gc.out _ (Zaf w 1)) ?_;intro v2 gp;have ga:=(Zaf w 1).trans (gp.mono (Zaf w 1).size);refine⟨ga,?_⟩;simp only[Zae];unfold Za6;refine Zac 7 rfl rfl (by kernel_rfl) ?_;apply Exists.intro;refine⟨fun w' hw=>?_,?_⟩
   . clear hw;go_simp;rfl
   simp only[Zae];refine Zac 8 rfl rfl (by kernel_rfl) ?_;apply Exists.intro;refine⟨fun w' hw=>?_,?_⟩
   . clear hw;go_simp;rfl
   simp only[Zae];refine Zac 9 rfl rfl (by kernel_rfl) ?_;apply Exists.intro;refine⟨fun w' hw=>?_,?_⟩
   . clear hw;go_simp;rfl
   simp only[Zae];refine Zan [10] (by kernel_rfl) (fun i hi hS o ho=>?_);simp only[Zbf] at hi;subst hi;simp only[Za2] at ho;subst ho;refine⟨rfl,?_⟩;have ge:=ga.trans ((Zad (v2) (.cells #[.int .i64 0,.int .i64 0,.int .i64 0,.int .i64 0,.int .i64 0] 254)).mono ga.size);have g8:=heap_alloc_new (v2) (.cells #[.int .i64 0,.int .i64 0,.int .i64 0,.int .i64 0,.int .i64 0] 254);have g0:w.heap.size<=(v2).heap.size:=ga.size;refine Zay (v:=.pointer (some ⟨(v2).heap.size,0,none⟩)) (w':=(v2).alloc (.cells #[.int .i64 0,.int .i64 0,.int .i64 0,.int .i64 0,.int .i64 0] 254)) (by go_simp) ⟨ge,?_⟩;simp only[Zae];obtain⟨bx,g1⟩:∃ bx,bx=(v2).heap.size:=⟨_,rfl⟩;rw[<- g1] at g8 g0 ⊢;obtain⟨u3,gm⟩:∃ u,u=(v2).alloc (.cells #[.int .i64 0,.int .i64 0,.int .i64 0,.int .i64 0,.int .i64 0] 254):=⟨_,rfl⟩;rw[<- gm] at g8 ge ⊢;clear gm g1;refine Zan [11] (by kernel_rfl) (fun i hi hS o ho=>?_);simp only[Zbf] at hi;subst hi;simp only[Za2] at ho;subst ho;refine⟨rfl,?_⟩;obtain⟨e0,e1,e2,e3,e4,fz⟩:=cells5 g8;refine Zbd (w':=set5 u3 bx 0 N) rfl (Zav (k:=0) fz e0 e1 e2 e3 e4 _ _ _ _ _) ?_;have g2:Below w.heap.size w (set5 u3 bx 0 N):=Zbc ge g0 N;have gf:=Zbr g8 N;refine⟨g2,?_⟩;simp only[Zae];clear e0 e1 e2 e3 e4 fz;refine Zac 12 rfl rfl (by kernel_rfl) ?_;apply Exists.intro;refine⟨fun w' hw=>?_,?_⟩
   . clear hw;go_simp;rfl
   simp only[Zae];refine Zbm (by kernel_rfl) ?_;go_wp2_with fail;refine(HN.out _).mono ?_;rintro x w' ⟨rfl,rfl⟩;cases z
   all_goals go_wp2_with fail
   all_goals go_ret
   all_goals exact⟨rfl,g2⟩
  .
   skip
   simp only[Za2] at ho;subst ho;refine⟨rfl,?_⟩;have g4:=(Zaf w 1).trans ((Zad (w.drew) (.cells #[.int .i64 0,.int .i64 0,.int .i64 0,.int .i64 0,.int .i64 0] 254)).mono (Zaf w 1).size);have g7:=heap_alloc_new (w.drew) (.cells #[.int .i64 0,.int .i64 0,.int .i64 0,.int .i64 0,.int .i64 0] 254);have g0:w.heap.size<=(w.drew).heap.size:=(Zaf w 1).size;refine Zay (v:=.pointer (some ⟨(w.drew).heap.size,0,none⟩)) (w':=(w.drew).alloc (.cells #[.int .i64 0,.int .i64 0,.int .i64 0,.int .i64 0,.int .i64 0] 254)) (by go_simp) ⟨g4,?_⟩;simp only[Zae];obtain⟨bx,g1⟩:∃ bx,bx=(w.drew).heap.size:=⟨_,rfl⟩;rw[<- g1] at g7 g0 ⊢;obtain⟨u4,gl⟩:∃ u,u=(w.drew).alloc (.cells #[.int .i64 0,.int .i64 0,.int .i64 0,.int .i64 0,.int .i64 0] 254):=⟨_,rfl⟩;rw[<- gl] at g7 g4 ⊢;clear gl g1;refine Zan [6] (by kernel_rfl) (fun i hi hS o ho=>?_);simp only[Zbf] at hi;subst hi;simp only[Za2] at ho;subst ho;refine⟨rfl,?_⟩;refine Zas (v:=(.tuple #[Za6 N,.bool B])) (R:=fun w'=>Below (u4).heap.size (u4) w') (by go_simp) (gc.out _ g4) ?_;intro v5 gj;have go:=g4.trans (gj.mono g4.size);refine⟨go,?_⟩;simp only[Zae];unfold Za6;have gh:=(gj.block _ (Array.getElem?_eq_some_iff.1 g7).1).trans g7;refine Zac 7 rfl rfl (by kernel_rfl) ?_;apply Exists.intro;refine⟨fun w' hw=>?_,?_⟩
   . clear hw;go_simp;rfl
   simp only[Zae];refine Zac 8 rfl rfl (by kernel_rfl) ?_;apply Exists.intro;refine⟨fun w' hw=>?_,?_⟩
   . clear hw;go_simp;rfl
   simp only[Zae];refine Zac 9 rfl rfl (by kernel_rfl) ?_;apply Exists.intro;refine⟨fun w' hw=>?_,?_⟩
   . clear hw;go_simp;rfl
   simp only[Zae];refine Zan [11] (by kernel_rfl) (fun i hi hS o ho=>?_);simp only[Zbf] at hi;subst hi;simp only[Za2] at ho;subst ho;refine⟨rfl,?_⟩;obtain⟨e0,e1,e2,e3,e4,fz⟩:=cells5 gh;refine Zbd (w':=set5 v5 bx 0 N) rfl (Zav (k:=0) fz e0 e1 e2 e3 e4 _ _ _ _ _) ?_;have g2:Below w.heap.size w (set5 v5 bx 0 N):=Zbc go g0 N;have gf:=Zbr gh N;refine⟨g2,?_⟩;simp only[Zae];clear e0 e1 e2 e3 e4 fz;refine Zac 12 rfl rfl (by kernel_rfl) ?_;apply Exists.intro;refine⟨fun w' hw=>?_,?_⟩
   . clear hw;go_simp;rfl
   simp only[Zae];refine Zbm (by kernel_rfl) ?_;go_wp2_with fail;refine(HN.out _).mono ?_;rintro x w' ⟨rfl,rfl⟩;cases z
   all_goals go_wp2_with fail
   all_goals go_ret
   all_goals exact⟨rfl,g2⟩
 .
  skip
  simp only[Za2] at ho;subst ho;refine⟨rfl,?_⟩;have g3:=(Zaf w 1).trans ((Zad (w.drew) (.cells #[.int .i64 0,.int .i64 0,.int .i64 0,.int .i64 0,.int .i64 0] 254)).mono (Zaf w 1).size);have g6:=heap_alloc_new (w.drew) (.cells #[.int .i64 0,.int .i64 0,.int .i64 0,.int .i64 0,.int .i64 0] 254);have g0:w.heap.size<=(w.drew).heap.size:=(Zaf w 1).size;refine Zay (v:=.pointer (some ⟨(w.drew).heap.size,0,none⟩)) (w':=(w.drew).alloc (.cells #[.int .i64 0,.int .i64 0,.int .i64 0,.int .i64 0,.int .i64 0] 254)) (by go_simp) ⟨g3,?_⟩;simp only[Zae];obtain⟨bx,g1⟩:∃ bx,bx=(w.drew).heap.size:=⟨_,rfl⟩;rw[<- g1] at g6 g0 ⊢;obtain⟨u6,gk⟩:∃ u,u=(w.drew).alloc (.cells #[.int .i64 0,.int .i64 0,.int .i64 0,.int .i64 0,.int .i64 0] 254):=⟨_,rfl⟩;rw[<- gk] at g6 g3 ⊢;clear gk g1;refine Zan [5] (by kernel_rfl) (fun i hi hS o ho=>?_);simp only[Zbf] at hi;subst hi;simp only[Za2] at ho;subst ho;refine⟨rfl,?_⟩;refine Zas (v:=(.int .i64 k)) (R:=fun w'=>u6=w') (by go_simp) (HN.out _) ?_;rintro w' rfl;refine⟨g3,?_⟩;simp only[Zae];refine Zan [6] (by kernel_rfl) (fun i hi hS o ho=>?_);simp only[Zbf] at hi;subst hi;simp only[Za2] at ho;subst ho;refine⟨rfl,?_⟩;refine Zas (v:=(.tuple #[Za6 N,.bool B])) (R:=fun w'=>Below (u6).heap.size (u6) w') (by go_simp) (gc.out _ g3) ?_;intro v8 gi;have gn:=g3.trans (gi.mono g3.size);refine⟨gn,?_⟩;simp only[Zae];unfold Za6;have gg:=(gi.block _ (Array.getElem?_eq_some_iff.1 g6).1).trans g6;refine Zac 7 rfl rfl (by kernel_rfl) ?_;apply Exists.intro;refine⟨fun w' hw=>?_,?_⟩
  . clear hw;go_simp;rfl
  simp only[Zae];refine Zac 8 rfl rfl (by kernel_rfl) ?_;apply Exists.intro;refine⟨fun w' hw=>?_,?_⟩
  . clear hw;go_simp;rfl
  simp only[Zae];refine Zac 9 rfl rfl (by kernel_rfl) ?_;apply Exists.intro;refine⟨fun w' hw=>?_,?_⟩
  . clear hw;go_simp;rfl
  simp only[Zae];refine Zan [11] (by kernel_rfl) (fun i hi hS o ho=>?_);simp only[Zbf] at hi;subst hi;simp only[Za2] at ho;subst ho;refine⟨rfl,?_⟩;obtain⟨e0,e1,e2,e3,e4,fz⟩:=cells5 gg;refine Zbd (w':=set5 v8 bx 0 N) rfl (Zav (k:=0) fz e0 e1 e2 e3 e4 _ _ _ _ _) ?_;have g2:Below w.heap.size w (set5 v8 bx 0 N):=Zbc gn g0 N;have gf:=Zbr gg N;refine⟨g2,?_⟩;simp only[Zae];clear e0 e1 e2 e3 e4 fz;refine Zac 12 rfl rfl (by kernel_rfl) ?_;apply Exists.intro;refine⟨fun w' hw=>?_,?_⟩
  . clear hw;go_simp;rfl
  simp only[Zae];refine Zbm (by kernel_rfl) ?_;go_wp2_with fail;refine(HN.out _).mono ?_;rintro x w' ⟨rfl,rfl⟩;cases z
  all_goals go_wp2_with fail
  all_goals go_ret
  all_goals exact⟨rfl,g2⟩
open Go.RowKit
theorem Zbo {o:Own}{w:World}{sb:Nat}{d:Zag}{s:Za7}(h:Zap o w sb d s)(hlt:Zal o w)(f:Nat)(hf:f<eMax)(lv:Int)(hbig:d.level.length<1000000) :
 Calls prog 224 #[.pointer (some ⟨sb,0,none⟩),.int .i64 f,.int .i64 lv] w fun x w'=>x=.returned (.bool (decide (enode f=0)||(d.pool.tk (enode f)&&decide (lv<d.levelOf (d.pool.has (enode f)).v))))/\Below w.heap.size w w':=by
 obtain⟨c0,c1,c2,c3,c4,f0⟩:=cells5 h.blk;have lsb:sb<w.heap.size:=Zaa c0;have g8:Hid (∀ W:World,Below w.heap.size w W->W.cell? ⟨sb,1,none⟩=some (.pointer (some ⟨s.pb,0,none⟩))):=Hd (fun W hb=>(hb.cell (p:=⟨sb,1,none⟩) lsb).trans c1);have g6:Hid (∀ W:World,Below w.heap.size w W->Calls prog 194 #[.pointer (some ⟨s.pb,0,none⟩),.int .i64 (enode f:Nat)] W fun x w'=>x=.returned (.tuple #[Za6 (d.pool.has (enode f)),.bool (d.pool.tk (enode f))])/\Below W.heap.size W w') :=
  Hd (fun W hb=>Zc8 o s.pb d.pool (enode f) W (h.pool.below hb hlt) (hlt.mono hb.size))
 have g7:Hid (∀ W:World,Below w.heap.size w W->Calls prog 136 #[.pointer (some ⟨sb,0,none⟩),.int .i64 ((d.pool.has (enode f)).v:Nat)] W fun x w'=>x=.returned (.int .i64 (d.levelOf (d.pool.has (enode f)).v))/\W=w') :=
  Hd (fun W hb=>Zcf (h.below hlt hb) _ hbig)
 have HN:=Hd (fun W=>Zcv f W hf);obtain⟨N,hN⟩:∃ N,N=d.pool.has (enode f):=⟨_,rfl⟩;obtain⟨B,hB⟩:∃ B,B=d.pool.tk (enode f):=⟨_,rfl⟩;obtain⟨k,hk⟩:∃ k,k=enode f:=⟨_,rfl⟩;rw[<- hN] at g6 g7;rw[<- hB,<- hk] at g6;rw[<- hk] at HN;rw[<- hB,<- hN,<- hk];obtain⟨M,hM⟩:∃ M,M=d.levelOf N.v:=⟨_,rfl⟩;rw[<- hM] at g7 ⊢;obtain⟨z,gf⟩:∃ z:Bool,z=decide (k=0):=⟨_,rfl⟩;have gr:(((k:Nat):Int) == 0)=z:=by rw[gf];exact Ybl k
 rw[<- gf];clear h hlt c0 c1 c2 c3 c4 f0 hN hB hk hf gf hM
 go_enter func224,ntmps224
 go_upto_region 1 with fail;refine Zbs (fun W:World=>Below w.heap.size w W) 13 (by kernel_rfl) (Zaf w 1) ?_;refine Zac 0 rfl rfl (by kernel_rfl) ?_;apply Exists.intro;refine⟨fun w' hw=>?_,?_⟩
 . have gd:=g8.out w' hw;go_simp;rfl
 simp only[Zae];refine Zac 1 rfl rfl (by kernel_rfl) ?_;apply Exists.intro;refine⟨fun w' hw=>?_,?_⟩
 . have gd:=g8.out w' hw;go_simp;rfl
 simp only[Zae];refine Zac 2 rfl rfl (by kernel_rfl) ?_;apply Exists.intro;refine⟨fun w' hw=>?_,?_⟩
 . have gd:=g8.out w' hw;go_simp;rfl
 simp only[Zae];refine Zac 3 rfl rfl (by kernel_rfl) ?_;apply Exists.intro;refine⟨fun w' hw=>?_,?_⟩
 . have gd:=g8.out w' hw;go_simp;rfl
 simp only[Zae];refine Zac 4 rfl rfl (by kernel_rfl) ?_;apply Exists.intro;refine⟨fun w' hw=>?_,?_⟩
 . have gd:=g8.out w' hw;go_simp;rfl
 simp only[Zae];refine Zan [5,10] (by kernel_rfl) (fun i hi hS o ho=>?_);simp only[Zbf] at hi;rcases hi with rfl|rfl
 .
  skip
  simp only[Za2] at ho;subst ho;refine⟨rfl,?_⟩;refine Zas (v:=(.int .i64 k)) (R:=fun w'=>w.drew=w') (by go_simp) (HN.out _) ?_;rintro w' rfl;refine⟨(Zaf w 1),?_⟩;simp only[Zae];refine Zan [6,10] (by kernel_rfl) (fun i hi hS o ho=>?_);simp only[Zbf] at hi;rcases hi with rfl|rfl
  .
   skip
   simp only[Za2] at ho;subst ho;refine⟨rfl,?_⟩;refine Zas (v:=(.tuple #[Za6 N,.bool B])) (R:=fun w'=>Below (w.drew).heap.size (w.drew) w') (by go_simp) (g6.out _ (Zaf w 1)) ?_;intro v2 gq;have ge:=(Zaf w 1).trans (gq.mono (Zaf w 1).size);refine⟨ge,?_⟩;simp only[Zae];unfold Za6;refine Zac 7 rfl rfl (by kernel_rfl) ?_;apply Exists.intro;refine⟨fun w' hw=>?_,?_⟩
   . clear hw;go_simp;rfl
   simp only[Zae];refine Zac 8 rfl rfl (by kernel_rfl) ?_;apply Exists.intro;refine⟨fun w' hw=>?_,?_⟩
   . clear hw;go_simp;rfl
   simp only[Zae];refine Zac 9 rfl rfl (by kernel_rfl) ?_;apply Exists.intro;refine⟨fun w' hw=>?_,?_⟩
   . clear hw;go_simp;rfl
   simp only[Zae];refine Zan [10] (by kernel_rfl) (fun i hi hS o ho=>?_);simp only[Zbf] at hi;subst hi;simp only[Za2] at ho;subst ho;refine⟨rfl,?_⟩;have gg:=ge.trans ((Zad (v2) (.cells #[.int .i64 0,.int .i64 0,.int .i64 0,.int .i64 0,.int .i64 0] 254)).mono ge.size);have gc:=heap_alloc_new (v2) (.cells #[.int .i64 0,.int .i64 0,.int .i64 0,.int .i64 0,.int .i64 0] 254);have g1:w.heap.size<=(v2).heap.size:=ge.size;refine Zay (v:=.pointer (some ⟨(v2).heap.size,0,none⟩)) (w':=(v2).alloc (.cells #[.int .i64 0,.int .i64 0,.int .i64 0,.int .i64 0,.int .i64 0] 254)) (by go_simp) ⟨gg,?_⟩;simp only[Zae];obtain⟨bx,g2⟩:∃ bx,bx=(v2).heap.size:=⟨_,rfl⟩;rw[<- g2] at gc g1 ⊢;obtain⟨u3,gn⟩:∃ u,u=(v2).alloc (.cells #[.int .i64 0,.int .i64 0,.int .i64 0,.int .i64 0,.int .i64 0] 254):=⟨_,rfl⟩;rw[<- gn] at gc gg ⊢;clear gn g2;refine Zan [11] (by kernel_rfl) (fun i hi hS o ho=>?_);simp only[Zbf] at hi;subst hi;simp only[Za2] at ho;subst ho;refine⟨rfl,?_⟩;obtain⟨e0,e1,e2,e3,e4,fz⟩:=cells5 gc;refine Zbd (w':=set5 u3 bx 0 N) rfl (Zav (k:=0) fz e0 e1 e2 e3 e4 _ _ _ _ _) ?_;have g0:Below w.heap.size w (set5 u3 bx 0 N):=Zbc gg g1 N;have g4:=Zbr gc N;refine⟨g0,?_⟩;simp only[Zae];clear e0 e1 e2 e3 e4 fz;refine Zac 12 rfl rfl (by kernel_rfl) ?_;apply Exists.intro;refine⟨fun w' hw=>?_,?_⟩
   . clear hw;go_simp;rfl
   simp only[Zae];refine Zbm (by kernel_rfl) ?_;obtain⟨y0,y1,y2,y3,y4,yz⟩:=cells5 g4;go_wp2_with fail;refine(HN.out _).mono ?_;rintro x w' ⟨rfl,rfl⟩;cases z
   .
    cases B
    . go_wp2_with fail;go_ret;exact⟨rfl,g0⟩
    . go_wp2_with fail;refine(g7.out _ g0).mono ?_;rintro x w' ⟨rfl,rfl⟩;go_wp2_with fail;go_ret;exact⟨rfl,g0⟩
   . go_wp2_with fail;go_ret;exact⟨rfl,g0⟩
  .
   skip
   simp only[Za2] at ho;subst ho;refine⟨rfl,?_⟩;have g5:=(Zaf w 1).trans ((Zad (w.drew) (.cells #[.int .i64 0,.int .i64 0,.int .i64 0,.int .i64 0,.int .i64 0] 254)).mono (Zaf w 1).size);have ga:=heap_alloc_new (w.drew) (.cells #[.int .i64 0,.int .i64 0,.int .i64 0,.int .i64 0,.int .i64 0] 254);have g1:w.heap.size<=(w.drew).heap.size:=(Zaf w 1).size;refine Zay (v:=.pointer (some ⟨(w.drew).heap.size,0,none⟩)) (w':=(w.drew).alloc (.cells #[.int .i64 0,.int .i64 0,.int .i64 0,.int .i64 0,.int .i64 0] 254)) (by go_simp) ⟨g5,?_⟩;simp only[Zae];obtain⟨bx,g2⟩:∃ bx,bx=(w.drew).heap.size:=⟨_,rfl⟩;rw[<- g2] at ga g1 ⊢;obtain⟨u4,gm⟩:∃ u,u=(w.drew).alloc (.cells #[.int .i64 0,.int .i64 0,.int .i64 0,.int .i64 0,.int .i64 0] 254):=⟨_,rfl⟩;rw[<- gm] at ga g5 ⊢;clear gm g2;refine Zan [6] (by kernel_rfl) (fun i hi hS o ho=>?_);simp only[Zbf] at hi;subst hi;simp only[Za2] at ho;subst ho;refine⟨rfl,?_⟩;refine Zas (v:=(.tuple #[Za6 N,.bool B])) (R:=fun w'=>Below (u4).heap.size (u4) w') (by go_simp) (g6.out _ g5) ?_;intro v5 gk;have gp:=g5.trans (gk.mono g5.size);refine⟨gp,?_⟩;simp only[Zae];unfold Za6;have gi:=(gk.block _ (Array.getElem?_eq_some_iff.1 ga).1).trans ga;refine Zac 7 rfl rfl (by kernel_rfl) ?_;apply Exists.intro;refine⟨fun w' hw=>?_,?_⟩
   . clear hw;go_simp;rfl
   simp only[Zae];refine Zac 8 rfl rfl (by kernel_rfl) ?_;apply Exists.intro;refine⟨fun w' hw=>?_,?_⟩
   . clear hw;go_simp;rfl
   simp only[Zae];refine Zac 9 rfl rfl (by kernel_rfl) ?_;apply Exists.intro;refine⟨fun w' hw=>?_,?_⟩
   . clear hw;go_simp;rfl
   simp only[Zae];refine Zan [11] (by kernel_rfl) (fun i hi hS o ho=>?_);simp only[Zbf] at hi;subst hi;simp only[Za2] at ho;subst ho;refine⟨rfl,?_⟩;obtain⟨e0,e1,e2,e3,e4,fz⟩:=cells5 gi;refine Zbd (w':=set5 v5 bx 0 N) rfl (Zav (k:=0) fz e0 e1 e2 e3 e4 _ _ _ _ _) ?_;have g0:Below w.heap.size w (set5 v5 bx 0 N):=Zbc gp g1 N;have g4:=Zbr gi N;refine⟨g0,?_⟩;simp only[Zae];clear e0 e1 e2 e3 e4 fz;refine Zac 12 rfl rfl (by kernel_rfl) ?_;apply Exists.intro;refine⟨fun w' hw=>?_,?_⟩
   . clear hw;go_simp;rfl
   simp only[Zae];refine Zbm (by kernel_rfl) ?_;obtain⟨y0,y1,y2,y3,y4,yz⟩:=cells5 g4;go_wp2_with fail;refine(HN.out _).mono ?_;rintro x w' ⟨rfl,rfl⟩;cases z
   .
    cases B
    . go_wp2_with fail;go_ret;exact⟨rfl,g0⟩
    . go_wp2_with fail;refine(g7.out _ g0).mono ?_;rintro x w' ⟨rfl,rfl⟩;go_wp2_with fail;go_ret;exact⟨rfl,g0⟩
   . go_wp2_with fail;go_ret;exact⟨rfl,g0⟩
 .
  skip
  simp only[Za2] at ho;subst ho;refine⟨rfl,?_⟩;have g3:=(Zaf w 1).trans ((Zad (w.drew) (.cells #[.int .i64 0,.int .i64 0,.int .i64 0,.int .i64 0,.int .i64 0] 254)).mono (Zaf w 1).size);have g9:=heap_alloc_new (w.drew) (.cells #[.int .i64 0,.int .i64 0,.int .i64 0,.int .i64 0,.int .i64 0] 254);have g1:w.heap.size<=(w.drew).heap.size:=(Zaf w 1).size;refine Zay (v:=.pointer (some ⟨(w.drew).heap.size,0,none⟩)) (w':=(w.drew).alloc (.cells #[.int .i64 0,.int .i64 0,.int .i64 0,.int .i64 0,.int .i64 0] 254)) (by go_simp) ⟨g3,?_⟩;simp only[Zae];obtain⟨bx,g2⟩:∃ bx,bx=(w.drew).heap.size:=⟨_,rfl⟩;rw[<- g2] at g9 g1 ⊢;obtain⟨u6,gl⟩:∃ u,u=(w.drew).alloc (.cells #[.int .i64 0,.int .i64 0,.int .i64 0,.int .i64 0,.int .i64 0] 254):=⟨_,rfl⟩;rw[<- gl] at g9 g3 ⊢;clear gl g2;refine Zan [5] (by kernel_rfl) (fun i hi hS o ho=>?_);simp only[Zbf] at hi;subst hi;simp only[Za2] at ho;subst ho;refine⟨rfl,?_⟩;refine Zas (v:=(.int .i64 k)) (R:=fun w'=>u6=w') (by go_simp) (HN.out _) ?_;rintro w' rfl;refine⟨g3,?_⟩;simp only[Zae];refine Zan [6] (by kernel_rfl) (fun i hi hS o ho=>?_);simp only[Zbf] at hi;subst hi;simp only[Za2] at ho;subst ho;refine⟨rfl,?_⟩;refine Zas (v:=(.tuple #[Za6 N,.bool B])) (R:=fun w'=>Below (u6).heap.size (u6) w') (by go_simp) (g6.out _ g3) ?_;intro v8 gj;have go:=g3.trans (gj.mono g3.size);refine⟨go,?_⟩;simp only[Zae];unfold Za6;have gh:=(gj.block _ (Array.getElem?_eq_some_iff.1 g9).1).trans g9;refine Zac 7 rfl rfl (by kernel_rfl) ?_;apply Exists.intro;refine⟨fun w' hw=>?_,?_⟩
  . clear hw;go_simp;rfl
  simp only[Zae];refine Zac 8 rfl rfl (by kernel_rfl) ?_;apply Exists.intro;refine⟨fun w' hw=>?_,?_⟩
  . clear hw;go_simp;rfl
  simp only[Zae];refine Zac 9 rfl rfl (by kernel_rfl) ?_;apply Exists.intro;refine⟨fun w' hw=>?_,?_⟩
  . clear hw;go_simp;rfl
  simp only[Zae];refine Zan [11] (by kernel_rfl) (fun i hi hS o ho=>?_);simp only[Zbf] at hi;subst hi;simp only[Za2] at ho;subst ho;refine⟨rfl,?_⟩;obtain⟨e0,e1,e2,e3,e4,fz⟩:=cells5 gh;refine Zbd (w':=set5 v8 bx 0 N) rfl (Zav (k:=0) fz e0 e1 e2 e3 e4 _ _ _ _ _) ?_;have g0:Below w.heap.size w (set5 v8 bx 0 N):=Zbc go g1 N;have g4:=Zbr gh N;refine⟨g0,?_⟩;simp only[Zae];clear e0 e1 e2 e3 e4 fz;refine Zac 12 rfl rfl (by kernel_rfl) ?_;apply Exists.intro;refine⟨fun w' hw=>?_,?_⟩
  . clear hw;go_simp;rfl
  simp only[Zae];refine Zbm (by kernel_rfl) ?_;obtain⟨y0,y1,y2,y3,y4,yz⟩:=cells5 g4;go_wp2_with fail;refine(HN.out _).mono ?_;rintro x w' ⟨rfl,rfl⟩;cases z
  .
   cases B
   . go_wp2_with fail;go_ret;exact⟨rfl,g0⟩
   . go_wp2_with fail;refine(g7.out _ g0).mono ?_;rintro x w' ⟨rfl,rfl⟩;go_wp2_with fail;go_ret;exact⟨rfl,g0⟩
  . go_wp2_with fail;go_ret;exact⟨rfl,g0⟩
open Go.RowKit
theorem Zce {P:Program}{f:FuncId}{args:Array Value}{w:World}{n:Nat}{v:Value}
 (h:Calls P f args (w.drewN n) fun e w'=>e=.returned v/\w.drewN n=w'):Calls P f args (w.drewN n) fun e w''=>e=.returned v/\∃ m,w''=w.drewN m :=
 h.mono fun _ _ ⟨he,hm⟩=>⟨he,n,hm.symm⟩
theorem Zc1 {fn:Func}{t u v x:Tmp}(h:fn.results=#[.tmp t,.tmp u,.tmp v,.tmp x])(tmps:Array Value)(P:Program)(w:World) :
 (results fn tmps).run P w=.ok (.tuple #[tmps.getD t undef,tmps.getD u undef,tmps.getD v undef,tmps.getD x undef]) w:=by
 simp[results,h]
theorem Zlj {o:Own}{w:World}{sb:Nat}{d:Zag}{s:Za7}(h:Zap o w sb d s)(hlt:Zal o w)(f:Nat)(hf:f<eMax)(hlo:(d.pool.has (enode f)).lo<eMax)(hhi:(d.pool.has (enode f)).hi<eMax) :
 Calls prog 183 #[.pointer (some ⟨sb,0,none⟩),.int .i64 f] w fun x w'=>x=.returned (if d.pool.tk (enode f)=true then .tuple #[.int .i64 (d.pool.has (enode f)).v,.int .i64 (eflip (d.pool.has (enode f)).lo (eneg f):Nat),.int .i64 (eflip (d.pool.has (enode f)).hi (eneg f):Nat),.bool true] else .tuple #[.int .i64 (-1),.int .i64 0,.int .i64 0,.bool false])/\Below w.heap.size w w':=by
 obtain⟨c0,c1,c2,c3,c4,f0⟩:=cells5 h.blk;have lsb:sb<w.heap.size:=Zaa c0;have g4:Hid (∀ W:World,Below w.heap.size w W->W.cell? ⟨sb,1,none⟩=some (.pointer (some ⟨s.pb,0,none⟩))):=Hd (fun W hb=>(hb.cell (p:=⟨sb,1,none⟩) lsb).trans c1);have g3:Hid (∀ W:World,Below w.heap.size w W->Calls prog 194 #[.pointer (some ⟨s.pb,0,none⟩),.int .i64 (enode f:Nat)] W fun x w'=>x=.returned (.tuple #[Za6 (d.pool.has (enode f)),.bool (d.pool.tk (enode f))])/\Below W.heap.size W w') :=
  Hd (fun W hb=>Zc8 o s.pb d.pool (enode f) W (h.pool.below hb hlt) (hlt.mono hb.size))
 have hz:(0:Int)<=f:=by omega
 have HG:=Hd (fun W=>Zk7 f W hf);have g5:=Hd (fun W b=>Zdf (d.pool.has (enode f)).lo b W hlo);have g6:=Hd (fun W b=>Zdf (d.pool.has (enode f)).hi b W hhi);have HN:=Hd (fun W=>Zcv f W hf);obtain⟨N,hN⟩:∃ N,N=d.pool.has (enode f):=⟨_,rfl⟩;obtain⟨B,hB⟩:∃ B,B=d.pool.tk (enode f):=⟨_,rfl⟩;obtain⟨k,hk⟩:∃ k,k=enode f:=⟨_,rfl⟩;rw[<- hN] at g3 g5 g6;rw[<- hB,<- hk] at g3;rw[<- hk] at HN;rw[<- hB,<- hN];obtain⟨g,hg⟩:∃ g:Bool,g=eneg f:=⟨_,rfl⟩;rw[<- hg] at HG ⊢;have g5:=Hd (fun W=>g5.out W g);have g6:=Hd (fun W=>g6.out W g);obtain⟨A,hA⟩:∃ A,A=eflip N.lo g:=⟨_,rfl⟩;obtain⟨C,hC⟩:∃ C,C=eflip N.hi g:=⟨_,rfl⟩;rw[<- hA] at g5 ⊢;rw[<- hC] at g6 ⊢;obtain⟨RV,gi⟩:∃ RV:Value,RV=(if B=true then .tuple #[.int .i64 N.v,.int .i64 (A:Nat),.int .i64 (C:Nat),.bool true] else .tuple #[.int .i64 (-1),.int .i64 0,.int .i64 0,.bool false]):=⟨_,rfl⟩;rw[<- gi];have g8:=Hd gi;clear h hlt c0 c1 c2 c3 c4 f0 hN hB hk hf hg hA hC hlo hhi gi
 go_enter func183,ntmps183
 go_upto_region 3 with fail;refine Zbs (fun W:World=>Below w.heap.size w W) 13 (by kernel_rfl) (Zaf w 1) ?_;refine Zac 0 rfl rfl (by kernel_rfl) ?_;apply Exists.intro;refine⟨fun w' hw=>?_,?_⟩
 . have gf:=g4.out w' hw;go_simp;rfl
 simp only[Zae];refine Zac 1 rfl rfl (by kernel_rfl) ?_;apply Exists.intro;refine⟨fun w' hw=>?_,?_⟩
 . have gf:=g4.out w' hw;go_simp;rfl
 simp only[Zae];refine Zac 2 rfl rfl (by kernel_rfl) ?_;apply Exists.intro;refine⟨fun w' hw=>?_,?_⟩
 . have gf:=g4.out w' hw;go_simp;rfl
 simp only[Zae];refine Zac 3 rfl rfl (by kernel_rfl) ?_;apply Exists.intro;refine⟨fun w' hw=>?_,?_⟩
 . have gf:=g4.out w' hw;go_simp;rfl
 simp only[Zae];refine Zac 4 rfl rfl (by kernel_rfl) ?_;apply Exists.intro;refine⟨fun w' hw=>?_,?_⟩
 . have gf:=g4.out w' hw;go_simp;rfl
 simp only[Zae];refine Zan [5,10] (by kernel_rfl) (fun i hi hS o ho=>?_);simp only[Zbf] at hi;rcases hi with rfl|rfl
 .
  skip
  simp only[Za2] at ho;subst ho;refine⟨rfl,?_⟩;refine Zas (v:=(.int .i64 k)) (R:=fun w'=>w.drew=w') (by go_simp) (HN.out _) ?_;rintro w' rfl;refine⟨(Zaf w 1),?_⟩;simp only[Zae];refine Zan [6,10] (by kernel_rfl) (fun i hi hS o ho=>?_);simp only[Zbf] at hi;rcases hi with rfl|rfl
  .
   skip
   simp only[Za2] at ho;subst ho;refine⟨rfl,?_⟩;refine Zas (v:=(.tuple #[Za6 N,.bool B])) (R:=fun w'=>Below (w.drew).heap.size (w.drew) w') (by go_simp) (g3.out _ (Zaf w 1)) ?_;intro v2 gt;have gg:=(Zaf w 1).trans (gt.mono (Zaf w 1).size);refine⟨gg,?_⟩;simp only[Zae];unfold Za6;refine Zac 7 rfl rfl (by kernel_rfl) ?_;apply Exists.intro;refine⟨fun w' hw=>?_,?_⟩
   . clear hw;go_simp;rfl
   simp only[Zae];refine Zac 8 rfl rfl (by kernel_rfl) ?_;apply Exists.intro;refine⟨fun w' hw=>?_,?_⟩
   . clear hw;go_simp;rfl
   simp only[Zae];refine Zac 9 rfl rfl (by kernel_rfl) ?_;apply Exists.intro;refine⟨fun w' hw=>?_,?_⟩
   . clear hw;go_simp;rfl
   simp only[Zae];refine Zan [10] (by kernel_rfl) (fun i hi hS o ho=>?_);simp only[Zbf] at hi;subst hi;simp only[Za2] at ho;subst ho;refine⟨rfl,?_⟩;have gh:=gg.trans ((Zad (v2) (.cells #[.int .i64 0,.int .i64 0,.int .i64 0,.int .i64 0,.int .i64 0] 254)).mono gg.size);have ge:=heap_alloc_new (v2) (.cells #[.int .i64 0,.int .i64 0,.int .i64 0,.int .i64 0,.int .i64 0] 254);have g1:w.heap.size<=(v2).heap.size:=gg.size;refine Zay (v:=.pointer (some ⟨(v2).heap.size,0,none⟩)) (w':=(v2).alloc (.cells #[.int .i64 0,.int .i64 0,.int .i64 0,.int .i64 0,.int .i64 0] 254)) (by go_simp) ⟨gh,?_⟩;simp only[Zae];obtain⟨bx,g2⟩:∃ bx,bx=(v2).heap.size:=⟨_,rfl⟩;rw[<- g2] at ge g1 ⊢;obtain⟨u3,gp⟩:∃ u,u=(v2).alloc (.cells #[.int .i64 0,.int .i64 0,.int .i64 0,.int .i64 0,.int .i64 0] 254):=⟨_,rfl⟩;rw[<- gp] at ge gh ⊢;clear gp g2;refine Zan [11] (by kernel_rfl) (fun i hi hS o ho=>?_);simp only[Zbf] at hi;subst hi;simp only[Za2] at ho;subst ho;refine⟨rfl,?_⟩;obtain⟨e0,e1,e2,e3,e4,fz⟩:=cells5 ge;refine Zbd (w':=set5 u3 bx 0 N) rfl (Zav (k:=0) fz e0 e1 e2 e3 e4 _ _ _ _ _) ?_;have g0:Below w.heap.size w (set5 u3 bx 0 N):=Zbc gh g1 N;have g9:=Zbr ge N;refine⟨g0,?_⟩;simp only[Zae];clear e0 e1 e2 e3 e4 fz;refine Zac 12 rfl rfl (by kernel_rfl) ?_;apply Exists.intro;refine⟨fun w' hw=>?_,?_⟩
   . clear hw;go_simp;rfl
   simp only[Zae];refine Zbm (by kernel_rfl) ?_;obtain⟨y0,y1,y2,y3,y4,yz⟩:=cells5 g9;clear HN g3 g4;cases B
   . go_wp2_with fail;refine bodyPost_ret (Zc1 rfl _ _ _) rfl ⟨?_,g0⟩;rw[g8.out];rfl
   .
    go_upto_region 6 with fail
    go_quiet ((first|(with_reducible exact Zce (HG.out _))|(with_reducible exact Zce (g5.out _))|(with_reducible exact Zce (g6.out _))))
    go_wp2_with fail;refine bodyPost_ret (Zc1 rfl _ _ _) rfl ⟨?_,Zak g0 _⟩;rw[g8.out];rfl
  .
   skip
   simp only[Za2] at ho;subst ho;refine⟨rfl,?_⟩;have ga:=(Zaf w 1).trans ((Zad (w.drew) (.cells #[.int .i64 0,.int .i64 0,.int .i64 0,.int .i64 0,.int .i64 0] 254)).mono (Zaf w 1).size);have gd:=heap_alloc_new (w.drew) (.cells #[.int .i64 0,.int .i64 0,.int .i64 0,.int .i64 0,.int .i64 0] 254);have g1:w.heap.size<=(w.drew).heap.size:=(Zaf w 1).size;refine Zay (v:=.pointer (some ⟨(w.drew).heap.size,0,none⟩)) (w':=(w.drew).alloc (.cells #[.int .i64 0,.int .i64 0,.int .i64 0,.int .i64 0,.int .i64 0] 254)) (by go_simp) ⟨ga,?_⟩;simp only[Zae];obtain⟨bx,g2⟩:∃ bx,bx=(w.drew).heap.size:=⟨_,rfl⟩;rw[<- g2] at gd g1 ⊢;obtain⟨u4,go⟩:∃ u,u=(w.drew).alloc (.cells #[.int .i64 0,.int .i64 0,.int .i64 0,.int .i64 0,.int .i64 0] 254):=⟨_,rfl⟩;rw[<- go] at gd ga ⊢;clear go g2;refine Zan [6] (by kernel_rfl) (fun i hi hS o ho=>?_);simp only[Zbf] at hi;subst hi;simp only[Za2] at ho;subst ho;refine⟨rfl,?_⟩;refine Zas (v:=(.tuple #[Za6 N,.bool B])) (R:=fun w'=>Below (u4).heap.size (u4) w') (by go_simp) (g3.out _ ga) ?_;intro v5 gm;have gr:=ga.trans (gm.mono ga.size);refine⟨gr,?_⟩;simp only[Zae];unfold Za6;have gk:=(gm.block _ (Array.getElem?_eq_some_iff.1 gd).1).trans gd;refine Zac 7 rfl rfl (by kernel_rfl) ?_;apply Exists.intro;refine⟨fun w' hw=>?_,?_⟩
   . clear hw;go_simp;rfl
   simp only[Zae];refine Zac 8 rfl rfl (by kernel_rfl) ?_;apply Exists.intro;refine⟨fun w' hw=>?_,?_⟩
   . clear hw;go_simp;rfl
   simp only[Zae];refine Zac 9 rfl rfl (by kernel_rfl) ?_;apply Exists.intro;refine⟨fun w' hw=>?_,?_⟩
   . clear hw;go_simp;rfl
   simp only[Zae];refine Zan [11] (by kernel_rfl) (fun i hi hS o ho=>?_);simp only[Zbf] at hi;subst hi;simp only[Za2] at ho;subst ho;refine⟨rfl,?_⟩;obtain⟨e0,e1,e2,e3,e4,fz⟩:=cells5 gk;refine Zbd (w':=set5 v5 bx 0 N) rfl (Zav (k:=0) fz e0 e1 e2 e3 e4 _ _ _ _ _) ?_;have g0:Below w.heap.size w (set5 v5 bx 0 N):=Zbc gr g1 N;have g9:=Zbr gk N;refine⟨g0,?_⟩;simp only[Zae];clear e0 e1 e2 e3 e4 fz;refine Zac 12 rfl rfl (by kernel_rfl) ?_;apply Exists.intro;refine⟨fun w' hw=>?_,?_⟩
   . clear hw;go_simp;rfl
   simp only[Zae];refine Zbm (by kernel_rfl) ?_;obtain⟨y0,y1,y2,y3,y4,yz⟩:=cells5 g9;clear HN g3 g4;cases B
   . go_wp2_with fail;refine bodyPost_ret (Zc1 rfl _ _ _) rfl ⟨?_,g0⟩;rw[g8.out];rfl
   .
    go_upto_region 6 with fail
    go_quiet ((first|(with_reducible exact Zce (HG.out _))|(with_reducible exact Zce (g5.out _))|(with_reducible exact Zce (g6.out _))))
    go_wp2_with fail;refine bodyPost_ret (Zc1 rfl _ _ _) rfl ⟨?_,Zak g0 _⟩;rw[g8.out];rfl
 .
  skip
  simp only[Za2] at ho;subst ho;refine⟨rfl,?_⟩;have g7:=(Zaf w 1).trans ((Zad (w.drew) (.cells #[.int .i64 0,.int .i64 0,.int .i64 0,.int .i64 0,.int .i64 0] 254)).mono (Zaf w 1).size);have gc:=heap_alloc_new (w.drew) (.cells #[.int .i64 0,.int .i64 0,.int .i64 0,.int .i64 0,.int .i64 0] 254);have g1:w.heap.size<=(w.drew).heap.size:=(Zaf w 1).size;refine Zay (v:=.pointer (some ⟨(w.drew).heap.size,0,none⟩)) (w':=(w.drew).alloc (.cells #[.int .i64 0,.int .i64 0,.int .i64 0,.int .i64 0,.int .i64 0] 254)) (by go_simp) ⟨g7,?_⟩;simp only[Zae];obtain⟨bx,g2⟩:∃ bx,bx=(w.drew).heap.size:=⟨_,rfl⟩;rw[<- g2] at gc g1 ⊢;obtain⟨u6,gn⟩:∃ u,u=(w.drew).alloc (.cells #[.int .i64 0,.int .i64 0,.int .i64 0,.int .i64 0,.int .i64 0] 254):=⟨_,rfl⟩;rw[<- gn] at gc g7 ⊢;clear gn g2;refine Zan [5] (by kernel_rfl) (fun i hi hS o ho=>?_);simp only[Zbf] at hi;subst hi;simp only[Za2] at ho;subst ho;refine⟨rfl,?_⟩;refine Zas (v:=(.int .i64 k)) (R:=fun w'=>u6=w') (by go_simp) (HN.out _) ?_;rintro w' rfl;refine⟨g7,?_⟩;simp only[Zae];refine Zan [6] (by kernel_rfl) (fun i hi hS o ho=>?_);simp only[Zbf] at hi;subst hi;simp only[Za2] at ho;subst ho;refine⟨rfl,?_⟩;refine Zas (v:=(.tuple #[Za6 N,.bool B])) (R:=fun w'=>Below (u6).heap.size (u6) w') (by go_simp) (g3.out _ g7) ?_;intro v8 gl;have gq:=g7.trans (gl.mono g7.size);refine⟨gq,?_⟩;simp only[Zae];unfold Za6;have gj:=(gl.block _ (Array.getElem?_eq_some_iff.1 gc).1).trans gc;refine Zac 7 rfl rfl (by kernel_rfl) ?_;apply Exists.intro;refine⟨fun w' hw=>?_,?_⟩
  . clear hw;go_simp;rfl
  simp only[Zae];refine Zac 8 rfl rfl (by kernel_rfl) ?_;apply Exists.intro;refine⟨fun w' hw=>?_,?_⟩
  . clear hw;go_simp;rfl
  simp only[Zae];refine Zac 9 rfl rfl (by kernel_rfl) ?_;apply Exists.intro;refine⟨fun w' hw=>?_,?_⟩
  . clear hw;go_simp;rfl
  simp only[Zae];refine Zan [11] (by kernel_rfl) (fun i hi hS o ho=>?_);simp only[Zbf] at hi;subst hi;simp only[Za2] at ho;subst ho;refine⟨rfl,?_⟩;obtain⟨e0,e1,e2,e3,e4,fz⟩:=cells5 gj;refine Zbd (w':=set5 v8 bx 0 N) rfl (Zav (k:=0) fz e0 e1 e2 e3 e4 _ _ _ _ _) ?_;have g0:Below w.heap.size w (set5 v8 bx 0 N):=Zbc gq g1 N;have g9:=Zbr gj N;refine⟨g0,?_⟩;simp only[Zae];clear e0 e1 e2 e3 e4 fz;refine Zac 12 rfl rfl (by kernel_rfl) ?_;apply Exists.intro;refine⟨fun w' hw=>?_,?_⟩
  . clear hw;go_simp;rfl
  simp only[Zae];refine Zbm (by kernel_rfl) ?_;obtain⟨y0,y1,y2,y3,y4,yz⟩:=cells5 g9;clear HN g3 g4;cases B
  . go_wp2_with fail;refine bodyPost_ret (Zc1 rfl _ _ _) rfl ⟨?_,g0⟩;rw[g8.out];rfl
  .
   go_upto_region 6 with fail
   go_quiet ((first|(with_reducible exact Zce (HG.out _))|(with_reducible exact Zce (g5.out _))|(with_reducible exact Zce (g6.out _))))
   go_wp2_with fail;refine bodyPost_ret (Zc1 rfl _ _ _) rfl ⟨?_,Zak g0 _⟩;rw[g8.out];rfl
open Go.RowKit
def bnOf (r:RN):BN:=⟨r.v,r.lo,r.hi⟩
def Zab (d:Zag):Nat->Option BN:=fun i=>(d.pool.get i).map bnOf
def Zaz (d:Zag):Nat->Nat:=fun i=>d.counts.getD i 0
def Zag.cd (d:Zag)(cs:List Nat)(dd:Nat):Zag:={ d with counts:=cs,dead:=dd }
theorem Za9 {d:Zag}{i:Nat}{b:BN}(h:Zab d i=some b):d.pool.tk i=true/\d.pool.has i=d.pool.nd i/\bnOf (d.pool.has i)=b:=by
 unfold Zab Zao.get at h
 by_cases e:d.pool.tk i=true
 . rw[if_pos e] at h;refine⟨e,by unfold Zao.has;rw[if_pos e],?_⟩;unfold Zao.has;rw[if_pos e];simpa using h
 . rw[if_neg e] at h;cases h
theorem Zg3 {d:Zag}{i:Nat}(h:Zab d i=none):d.pool.tk i=false:=by
 unfold Zab Zao.get at h
 by_cases e:d.pool.tk i=true
 . rw[if_pos e] at h;cases h
 . simpa using e
structure Acy (N:Nat->Option BN)(rk:Nat->Nat):Prop where
 none0:N 0=none
 okLo:∀ i b,N i=some b->okE N b.lo
 okHi:∀ i b,N i=some b->okE N b.hi
 ltLo:∀ i b c,N i=some b->N (b.lo/2)=some c->rk (b.lo/2)<rk i
 ltHi:∀ i b c,N i=some b->N (b.hi/2)=some c->rk (b.hi/2)<rk i
structure Zci (d:Zag)(ext:Nat->Int):Prop where
 cnt:Cnt d.pool.at_.length (Zab d) (Zaz d) ext
 dead:(d.dead:Int)=Zek d.pool.at_.length (Zab d) (Zaz d)
 has:∀ i b,Zab d i=some b->i<d.counts.length
theorem Ziz {f:Nat->Int}{B:Int}:∀ (k:Nat),(∀ i,i<k->f i<=B)->Zaw k f<=k*B
 | 0,_=>by simp[Zaw]
 | k+1,h=>by
   have ih:=Ziz k (fun i hi=>h i (by omega));have h1:=h k (by omega);have:Zaw (k+1) f=Zaw k f+f k:=rfl;rw[this];have e:((k+1:Nat):Int)*B=k*B+B:=by rw[Int.natCast_add,Int.add_mul];simp
   omega
theorem Zxz (N:Nat->Option BN)(c:Nat->Nat)(x p:Nat):from1 N c x p<=2:=by
 unfold from1 Zd0 toE;split
 .
  split
  . split<;>split<;>omega
  . omega
 . omega
theorem Cnt.le {k:Nat}{N:Nat->Option BN}{c:Nat->Nat}{ext:Nat->Int}(h:Cnt k N c ext){x:Nat}{b:BN}(hx:N x=some b):(c x:Int)<=ext x+2*k:=by
 have h1:=h.eq x b hx;have h2:=Ziz (f:=from1 N c x) (B:=2) k (fun i _=>Zxz N c x i);omega
theorem Zd6 {d:Zag}{x v dd:Nat}(hx:x<d.counts.length):Zaz (d.cd (d.counts.set x v) dd)=setC (Zaz d) x v:=by
 funext i;unfold Zaz setC Zag.cd;dsimp only
 by_cases e:i=x
 . subst e;simp[List.getD,hx]
 . simp only[List.getD,List.getElem?_set,if_neg (Ne.symm e),if_neg e]
section
variable {d:Zag}{ext:Nat->Int}{x:Nat}{b:BN}
theorem Zci.congr (h:Zci d ext){ext':Nat->Int}(he:∀ x b,Zab d x=some b->ext' x=ext x):Zci d ext':=⟨h.cnt.congr he,h.dead,h.has⟩
theorem Zci.moreLive (h:Zci d ext)(hx:Zab d x=some b)(hc:0<Zaz d x):Zci (d.cd (d.counts.set x (Zaz d x+1)) d.dead) (bump ext x 1):=by
 have hl:=h.has x b hx;refine⟨?_,?_,fun i b' hb=>by simpa [Zag.cd] using h.has i b' hb⟩
 . rw[Zd6 hl];exact h.cnt.moreLive hc
 .
  rw[Zd6 hl]
  show (d.dead:Int)=Zek d.pool.at_.length (Zab d) _
  rw[Zhe hx (h.cnt.lt x b hx),<- h.dead,if_neg (by omega),if_neg (by omega)];omega
theorem Zci.moreDead (h:Zci d ext)(hx:Zab d x=some b)(hc:Zaz d x=0):0<d.dead/\Zci (d.cd (d.counts.set x 1) (d.dead-1)) (addE (addE (bump ext x 1) b.lo (-1)) b.hi (-1)):=by
 have hl:=h.has x b hx;have hk:=h.cnt.lt x b hx;have h1:=Zhe (c:=Zaz d) (v:=1) hx hk;rw[if_neg (by omega),if_pos hc,<- h.dead] at h1;have h2:0<=Zek d.pool.at_.length (Zab d) (setC (Zaz d) x 1):=Zfe _ fun i _=>Zji _ _ i
 refine⟨by omega,?_,?_,fun i b' hb=>by simpa [Zag.cd] using h.has i b' hb⟩
 . rw[Zd6 hl];exact h.cnt.moreDead hx hc
 .
  rw[Zd6 hl]
  show ((d.dead-1:Nat):Int)=Zek d.pool.at_.length (Zab d) _
  rw[h1];omega
theorem Zci.lessLive (h:Zci d ext)(hx:Zab d x=some b)(hc:1<Zaz d x):Zci (d.cd (d.counts.set x (Zaz d x-1)) d.dead) (bump ext x (-1)):=by
 have hl:=h.has x b hx;refine⟨?_,?_,fun i b' hb=>by simpa [Zag.cd] using h.has i b' hb⟩
 . rw[Zd6 hl];exact h.cnt.lessLive hc
 .
  rw[Zd6 hl]
  show (d.dead:Int)=Zek d.pool.at_.length (Zab d) _
  rw[Zhe hx (h.cnt.lt x b hx),<- h.dead,if_neg (by omega),if_neg (by omega)];omega
theorem Zci.lessDies (h:Zci d ext)(hx:Zab d x=some b)(hc:Zaz d x=1):Zci (d.cd (d.counts.set x 0) (d.dead+1)) (addE (addE (bump ext x (-1)) b.lo 1) b.hi 1):=by
 have hl:=h.has x b hx;have hk:=h.cnt.lt x b hx;have h1:=Zhe (c:=Zaz d) (v:=0) hx hk;rw[if_pos rfl,if_neg (by omega),<- h.dead] at h1;refine⟨?_,?_,fun i b' hb=>by simpa [Zag.cd] using h.has i b' hb⟩
 . rw[Zd6 hl];exact h.cnt.lessDies hx hc
 .
  rw[Zd6 hl]
  show ((d.dead+1:Nat):Int)=Zek d.pool.at_.length (Zab d) _
  rw[h1];omega
end
def RCnt (r:Role):Prop:=r=.store\/r=.counts
section
variable {o:Own}{w:World}{sb:Nat}{d:Zag}{s:Za7}
theorem Zap.countsAt (h:Zap o w sb d s){x:Nat}(hx:x<d.counts.length):∃ gc cap,s.vc=.slice (some ⟨gc,0,none⟩) d.counts.length cap/\o gc=some .counts/\gc≠sb/\d.counts.length<=cap/\cap<=maxLen/\(∀ k,w.frozen? ⟨gc,k,none⟩=false) /\
 (∀ k,k<d.counts.length->w.cell? ⟨gc,k,none⟩=some (.int .i64 (Zaz d k:Nat))):=by
 obtain⟨gc,cap,hv,ho,h1,h2⟩:=h.counts.shape (by omega);have hr:=h.counts;rw[hv] at hr;refine⟨gc,cap,hv,ho,fun e=>(by subst e;rw[h.own] at ho;cases ho),h1,h2,hr.frozen,fun k hk=>?_⟩;rw[hr.cell k (by simpa using hk),List.getElem?_map,List.getElem?_eq_getElem hk];simp[nat64,Zaz,List.getD,hk]
theorem Zap.keepBut (h:Zap o w sb d s){d':Zag}{w':World}{g:Nat}(hg:o g=some .counts\/o g=some .store)(hk:∀ k,k≠g->w'.heap[k]?=w.heap[k]?)
 (hb:∃ dd cs,w'.heap[sb]?=some (.cells #[.pointer (some ⟨s.lb,0,none⟩),.pointer (some ⟨s.pb,0,none⟩),s.vt,s.vc,.int .i64 (dd:Nat)] 193 (0,0))/\RowR o w' .counts 3 1 s.vc cs.length (cs.map nat64)/\d'=d.cd cs dd):Zap o w' sb d' s:=by
 obtain⟨dd,cs,h1,h2,rfl⟩:=hb;have g0:∀ {b r},o b=some r->r ≠ .counts->r ≠ .store->b≠g:=fun hb hr g1 e=>by subst e;rcases hg with hg|hg<;>rw[hb] at hg<;>cases hg<;>contradiction
 exact⟨h.own,h.ownl,h1,(hk _ (g0 h.ownl (by simp) (by simp))).trans h.lev,h.vars.keep (fun b hb=>hk _ (g0 hb (by simp) (by simp))) (fun _ h=>h),h.level.keep (fun b hb=>hk _ (g0 hb (by simp) (by simp))) (fun _ h=>h),
  h.pool.keep (fun b r hb hr=>hk _ (g0 hb (by rcases hr with rfl|rfl|rfl|rfl<;>simp) (by rcases hr with rfl|rfl|rfl|rfl<;>simp))) (fun _ _ h=>h),
  h.tabs.keep (fun b hb=>hk _ (g0 hb (by simp) (by simp))) (fun _ h=>h),
  fun v hv=>(h.tab v hv).keep (fun b r hb hr=>hk _ (g0 hb (by rcases hr with rfl|rfl<;>simp) (by rcases hr with rfl|rfl<;>simp))) (fun _ _ h=>h),h2,h.len,h.tlen⟩
theorem Zap.setCount (h:Zap o w sb d s){gc cap:Nat}(hv:s.vc=.slice (some ⟨gc,0,none⟩) d.counts.length cap)(hne:gc≠sb)(x v:Nat):Zap o (w.setCell ⟨gc,x,none⟩ (.int .i64 v)) sb (d.cd (d.counts.set x v) d.dead) s:=by
 have hr:=h.counts;rw[hv] at hr;refine h.keepBut (g:=gc) (.inl hr.owner) (fun k hk=>Zai hk _) ⟨d.dead,_,(Zai (Ne.symm hne) _).trans h.blk,?_,rfl⟩;have:=hr.stored x (.int .i64 v);rw[hv,List.length_set,List.map_set];exact this
theorem Zap.setDead (h:Zap o w sb d s)(hlt:Zal o w)(dd:Nat):Zap o (w.setCell ⟨sb,4,none⟩ (.int .i64 dd)) sb (d.cd d.counts dd) s:=by
 refine h.keepBut (g:=sb) (.inr h.own) (fun k hk=>Zai hk _) ⟨dd,d.counts,?_,?_,rfl⟩
 . exact Zah (k:=4) h.blk _
 . exact h.counts.keep (fun b hb=>Zai (fun e=>by have e':b=sb:=e;subst e';rw[h.own] at hb;cases hb) _) (fun _ h=>h)
end
open Go.RowKit
theorem Zfw {fn:Func}(h:fn.results=#[])(tmps:Array Value)(P:Program)(w:World):(results fn tmps).run P w=.ok (.tuple #[]) w:=by simp[results,h]
def Zbp (o:Own)(w:World)(sb:Nat)(d:Zag)(s:Za7)(rk:Nat->Nat)(m:Nat)(less:Bool)(ext':Nat->Int)(e:Ending)(w':World):Prop :=
 ∃ cs dd,e=.returned (.tuple #[])/\Zap o w' sb (d.cd cs dd) s/\Zci (d.cd cs dd) ext'/\cs.length=d.counts.length/\(∀ i,m<=rk i->cs.getD i 0=d.counts.getD i 0)/\(less=true->∀ i,cs.getD i 0<=d.counts.getD i 0)/\Chg RCnt o o w w'
structure Zoi (o:Own)(w:World)(sb:Nat)(d:Zag)(s:Za7)(rk:Nat->Nat)(ext:Nat->Int)(f:Nat)(m:Nat):Prop where
 st:Zap o w sb d s
 lt:Zal o w
 acy:Acy (Zab d) rk
 ok:okE (Zab d) f
 live:Zci d ext
 top:∀ y b,Zab d y=some b->ext y+toE f y<=1099511627776
 low:f/2=0\/rk (f/2)<m
structure Zog (o:Own)(w:World)(sb:Nat)(d:Zag)(s:Za7)(rk:Nat->Nat)(ext:Nat->Int)(f:Nat)(m:Nat):Prop where
 st:Zap o w sb d s
 lt:Zal o w
 acy:Acy (Zab d) rk
 ok:okE (Zab d) f
 live:Zci d ext
 top:∀ y b,Zab d y=some b->Zaz d y<=2199023255552
 pos:∀ y b,Zab d y=some b->0<=ext y-toE f y
 low:f/2=0\/rk (f/2)<m
theorem Zap.tk_lt {o:Own}{w:World}{sb:Nat}{d:Zag}{s:Za7}(h:Zap o w sb d s){i:Nat}{b:BN}(hi:Zab d i=some b):0<i/\i<d.pool.at_.length/\d.pool.at_.length<=1048577:=by
 have h1:=h.pool.tk_lt (Za9 hi).1;have h2:=h.pool.top;have h3:=h.pool.room;omega
theorem Zap.edge_lt {o:Own}{w:World}{sb:Nat}{d:Zag}{s:Za7}(h:Zap o w sb d s){f:Nat}(hf:okE (Zab d) f):f<2097156:=by
 rcases hf with h0|⟨b,hb⟩
 . omega
 . have:=h.tk_lt hb;omega
theorem Zok {ext:Nat->Int}{f:Nat}:addE ext f 1=bump ext (f/2) 1:=by
 funext y;unfold addE bump toE
 by_cases e:f/2=y
 . subst e;simp
 . simp[e,Ne.symm e]
theorem Zmb {ext:Nat->Int}{f:Nat}:addE ext f (-1)=bump ext (f/2) (-1):=by
 funext y;unfold addE bump toE
 by_cases e:f/2=y
 . subst e;simp
 . simp[e,Ne.symm e]
theorem Zwg {o:Own}{w:World}{sb:Nat}{d:Zag}{s:Za7}{rk:Nat->Nat}{ext:Nat->Int}{f m:Nat}(h:Zoi o w sb d s rk ext f m){b:BN}(hx:Zab d (enode f)=some b)(hc:0<Zaz d (enode f)) :
 Calls prog 203 #[.pointer (some ⟨sb,0,none⟩),.int .i64 f] w (Zbp o w sb d s rk m false (addE ext f 1)):=by
 have gk:=h.st.edge_lt h.ok;have hf:f<eMax:=by unfold eMax;omega
 have g5:=h.live.has _ _ hx;obtain⟨gc,cap,hv,ga,g9,gi,gf,gd,g4⟩:=h.st.countsAt g5;obtain⟨c0,c1,c2,c3,c4,f0⟩:=cells5 h.st.blk;rw[hv] at c3;have ge:=g4 _ g5;have gj:=gd (enode f);have gr:=h.live.cnt.le hx;have g6:=h.top _ _ hx;rw[show toE f (enode f)=1 from Zjg f] at g6;have gl:=h.st.tk_lt hx;have g8:=h.st.tk_lt hx;have g3:Hid (∀ i,m<=rk i->(d.counts.set (enode f) (Zaz d (enode f)+1)).getD i 0=d.counts.getD i 0):=fun i hi=>by
  have:enode f≠i:=by
   rintro rfl;rcases h.low with h0|h0
   . have:enode f=0:=h0;omega
   . have e:f/2=enode f:=rfl;rw[e] at h0;omega
  simp only[List.getD,List.getElem?_set,if_neg this]
 have g7:Hid (false=true->∀ i,(d.counts.set (enode f) (Zaz d (enode f)+1)).getD i 0<=d.counts.getD i 0):=fun e=>(by cases e)
 have g0:Hid (Zap o (w.setCell ⟨gc,enode f,none⟩ (.int .i64 ((Zaz d (enode f)+1:Nat):Int))) sb (d.cd (d.counts.set (enode f) (Zaz d (enode f)+1)) d.dead) s/\Zci (d.cd (d.counts.set (enode f) (Zaz d (enode f)+1)) d.dead) (addE ext f 1)) :=
  ⟨h.st.setCount hv g9 _ _,by rw[Zok];exact h.live.moreLive hx hc⟩
 have g1:=Hd ((Chg.refl RCnt o w).setCell (p:=⟨gc,enode f,none⟩) ga (.inr rfl) (.int .i64 ((Zaz d (enode f)+1:Nat):Int)));rw[show ((Zaz d (enode f)+1:Nat):Int)=(Zaz d (enode f):Nat)+1 from by omega] at g0 g1;have g2:((enode f:Nat):Int)≠0:=by have:=g8.1;omega
 have HN:=Hd (fun W=>Zcv f W hf);have gm:sb≠gc:=fun e=>g9 e.symm
 have gh:((enode f:Nat):Int)<d.counts.length:=by omega
 obtain⟨k,hk⟩:∃ k,k=enode f:=⟨_,rfl⟩;obtain⟨c,gg⟩:∃ c,c=Zaz d (enode f):=⟨_,rfl⟩;have go:c<=2199023255552:=by omega
 have gu:0<c:=by omega
 rw[<- gg] at ge g0 g1 g3 g7;rw[<- hk] at ge gj g0 g1 g2 HN gh g3 g7;have gq:((k:Int) == 0)=false:=by simpa using g2
 have gp:0<k:=by omega
 have gn:d.counts.length<=9223372036854775807:=by unfold maxLen at gf;omega
 have gt:(1:Int)<(c:Int)+1:=by omega
 clear h hx hc hv ga gi gf gd g4 hk gg g6 g8 g2 g5 gk hf
 go_enter func203,ntmps203
 go_wp2_with fail;refine(HN.out _).mono ?_;rintro x w' ⟨rfl,rfl⟩;go_wp2_with fail;refine bodyPost_ret (Zfw rfl _ _ _) rfl ⟨_,_,rfl,g0.out.1,g0.out.2,by simp,g3.out,(fun e=>by first|exact absurd e (by decide)|exact g7.out (by simp)),g1.out⟩
theorem Zwh {o:Own}{w:World}{sb:Nat}{d:Zag}{s:Za7}{rk:Nat->Nat}{ext:Nat->Int}{f m:Nat}(h:Zoi o w sb d s rk ext f m)(hx:enode f=0) :
 Calls prog 203 #[.pointer (some ⟨sb,0,none⟩),.int .i64 f] w (Zbp o w sb d s rk m false (addE ext f 1)):=by
 have hf:f<eMax:=by have:=h.st.edge_lt h.ok;unfold eMax;omega
 have g0:Hid (Zbp o w sb d s rk m false (addE ext f 1) (.returned (.tuple #[])) w) :=
  ⟨d.counts,d.dead,rfl,h.st,h.live.congr (fun y b hb=>by
   have:y≠0:=by rintro rfl;rw[h.acy.none0] at hb;cases hb
   have e:f/2=0:=hx;simp[addE,toE,e,Ne.symm this]),rfl,fun _ _=>rfl,fun _ _=>Nat.le_refl _,Chg.refl _ _ _⟩
 have HN:=Hd (fun W=>Zcv f W hf);rw[hx] at HN;clear h hx hf
 go_enter func203,ntmps203
 go_wp2_with fail;refine(HN.out _).mono ?_;rintro x w' ⟨rfl,rfl⟩;go_wp2_with fail;refine bodyPost_ret (Zfw rfl _ _ _) rfl g0.out
theorem Zwf {o:Own}{w:World}{sb:Nat}{d:Zag}{s:Za7}{rk:Nat->Nat}{ext:Nat->Int}{f m:Nat}(h:Zoi o w sb d s rk ext f (m+1)){b:BN}(hx:Zab d (enode f)=some b)(hc:Zaz d (enode f)=0)
 (ih:∀ w d ext f,Zoi o w sb d s rk ext f m->Calls prog 203 #[.pointer (some ⟨sb,0,none⟩),.int .i64 f] w (Zbp o w sb d s rk m false (addE ext f 1))) :
 Calls prog 203 #[.pointer (some ⟨sb,0,none⟩),.int .i64 f] w (Zbp o w sb d s rk (m+1) false (addE ext f 1)):=by
 have gT:=h.st.edge_lt h.ok;have hf:f<eMax:=by unfold eMax;omega
 have gd:=h.live.has _ _ hx;obtain⟨gc,cap,hv,gu,gg,gP,gB,gv,g5⟩:=h.st.countsAt gd;obtain⟨c0,c1,c2,c3,c4,f0⟩:=cells5 h.st.blk;rw[hv] at c3;have gh:=g5 _ gd;have gw:=gv (enode f);have gq:=h.st.tk_lt hx;obtain⟨gy,gr⟩:=h.live.moreDead hx hc;have gA:d.dead<=1048577:=by
  have h1:=h.live.dead;have h2:=Ziz (f:=dead1 (Zab d) (Zaz d)) (B:=1) d.pool.at_.length (fun i _=>by unfold dead1;split<;>first|omega|(split<;>omega));have h3:Zek d.pool.at_.length (Zab d) (Zaz d)=Zaw d.pool.at_.length (dead1 (Zab d) (Zaz d)):=rfl;omega
 have gX:=Hd h.lt;have gn:∀ i,m+1<=rk i->(d.counts.set (enode f) 1).getD i 0=d.counts.getD i 0:=fun i hi=>by
  have:enode f≠i:=by
   rintro rfl;rcases h.low with h0|h0
   . have:enode f=0:=h0;omega
   . have e:f/2=enode f:=rfl;rw[e] at h0;omega
  simp only[List.getD,List.getElem?_set,if_neg this]
 have gD:false=true->∀ i,(d.counts.set (enode f) 1).getD i 0<=d.counts.getD i 0:=fun e=>(by cases e)
 have gN:rk (enode f)<=m:=by
  rcases h.low with h0|h0
  . have:enode f=0:=h0;omega
  . have e:f/2=enode f:=rfl;rw[e] at h0;omega
 have g3:∀ e,(okE (Zab d) e)->(∀ c,Zab d (e/2)=some c->rk (e/2)<rk (enode f))->e/2=0\/rk (e/2)<m:=fun e ho hr=>by
  rcases ho with h0|⟨c,hc⟩
  . exact .inl h0
  . exact .inr (by have:=hr c hc;omega)
 have st1:Zap o (w.setCell ⟨gc,enode f,none⟩ (.int .i64 ((1:Nat):Int))) sb (d.cd (d.counts.set (enode f) 1) d.dead) s:=h.st.setCount hv gg _ _;have g2:Zal o (w.setCell ⟨gc,enode f,none⟩ (.int .i64 ((1:Nat):Int))):=h.lt.mono (by simp[World.setCell]);have st2:Zap o ((w.setCell ⟨gc,enode f,none⟩ (.int .i64 ((1:Nat):Int))).setCell ⟨sb,4,none⟩ (.int .i64 ((d.dead-1:Nat):Int))) sb (d.cd (d.counts.set (enode f) 1) (d.dead-1)) s:=st1.setDead g2 _;have go:=Hd (((Chg.refl RCnt o w).setCell (p:=⟨gc,enode f,none⟩) gu (.inr rfl) (.int .i64 ((1:Nat):Int))).setCell (p:=⟨sb,4,none⟩) h.st.own (.inl rfl) (.int .i64 ((d.dead-1:Nat):Int)));have g0:Zal o ((w.setCell ⟨gc,enode f,none⟩ (.int .i64 ((1:Nat):Int))).setCell ⟨sb,4,none⟩ (.int .i64 ((d.dead-1:Nat):Int))):=g2.mono (by simp[World.setCell]);have gf:=Za9 hx;have gU:∃ N,N=d.pool.has (enode f)/\N.lo=b.lo/\N.hi=b.hi:=⟨_,rfl,by rw[<- gf.2.2];rfl,by rw[<- gf.2.2];rfl⟩;have gx:addE (addE (addE (addE (bump ext (enode f) 1) b.lo (-1)) b.hi (-1)) b.lo 1) b.hi 1=addE ext f 1:=by
  funext y;have h1:=congrFun (Zok (ext:=ext) (f:=f)) y;have h2:enode f=f/2:=rfl;rw[h2,h1];simp only[addE];omega
 obtain⟨W2,gk⟩:∃ W,W=(w.setCell ⟨gc,enode f,none⟩ (.int .i64 ((1:Nat):Int))).setCell ⟨sb,4,none⟩ (.int .i64 ((d.dead-1:Nat):Int)):=⟨_,rfl⟩;rw[<- gk] at st2 go g0;have gK:=Hd g0;have g1:Hid (∀ W:World,Below W2.heap.size W2 W->Calls prog 194 #[.pointer (some ⟨s.pb,0,none⟩),.int .i64 (enode f:Nat)] W fun x w'=>x=.returned (.tuple #[Za6 (d.pool.has (enode f)),.bool (d.pool.tk (enode f))])/\Below W.heap.size W w') :=
  Hd (fun W hb=>Zc8 o s.pb d.pool (enode f) W (st2.pool.below hb g0) (g0.mono hb.size))
 have h5:Hid (∀ W:World,Below W2.heap.size W2 W->W.cell? ⟨sb,1,none⟩=some (.pointer (some ⟨s.pb,0,none⟩))):=Hd (fun W hb=>(cells5 (st2.below g0 hb).blk).2.1);have gC:Hid (∀ W:World,Below W2.heap.size W2 W->Calls prog 203 #[.pointer (some ⟨sb,0,none⟩),.int .i64 (b.lo:Nat)] W (Zbp o W sb (d.cd (d.counts.set (enode f) 1) (d.dead-1)) s rk m false (addE (addE (addE (bump ext (enode f) 1) b.lo (-1)) b.hi (-1)) b.lo 1))) :=
  Hd (fun W hb=>ih W _ _ b.lo ⟨st2.below g0 hb,g0.mono hb.size,h.acy,h.acy.okLo _ _ hx,gr,fun y q hq=>by
   have h1:=h.top y q hq;have h2:toE f y=if enode f=y then 1 else 0:=rfl
   have h3:=Zb9 b.lo y;have h4:=Zb9 b.hi y;simp only[addE,bump]
   by_cases e:y=enode f
   . rw[if_pos e.symm] at h2;rw[if_pos e];omega
   . rw[if_neg (Ne.symm e)] at h2;rw[if_neg e];omega,g3 b.lo (h.acy.okLo _ _ hx) (fun c hc=>h.acy.ltLo _ _ c hx hc)⟩)
 have gF:Hid (∀ (W:World) (cs:List Nat) (dd:Nat),Zap o W sb ((d.cd (d.counts.set (enode f) 1) (d.dead-1)).cd cs dd) s->Zci ((d.cd (d.counts.set (enode f) 1) (d.dead-1)).cd cs dd) (addE (addE (addE (bump ext (enode f) 1) b.lo (-1)) b.hi (-1)) b.lo 1)->(false=true->∀ i,cs.getD i 0<=(d.counts.set (enode f) 1).getD i 0)->Chg RCnt o o w W ->
  Calls prog 203 #[.pointer (some ⟨sb,0,none⟩),.int .i64 (b.hi:Nat)] W (Zbp o W sb ((d.cd (d.counts.set (enode f) 1) (d.dead-1)).cd cs dd) s rk m false (addE ext f 1))) :=
  Hd (fun W cs dd hs hl gt gi=>by
   rw[<- gx]
   exact ih W _ _ b.hi ⟨hs,gX.out.mono gi.size,h.acy,h.acy.okHi _ _ hx,hl,fun y q hq=>by
    have h1:=h.top y q hq;have h2:toE f y=if enode f=y then 1 else 0:=rfl
    have h3:=Zb9 b.lo y;have h4:=Zb9 b.hi y;simp only[addE,bump]
    by_cases e:y=enode f
    . rw[if_pos e.symm] at h2;rw[if_pos e];omega
    . rw[if_neg (Ne.symm e)] at h2;rw[if_neg e];omega,g3 b.hi (h.acy.okHi _ _ hx) (fun c hc=>h.acy.ltHi _ _ c hx hc)⟩)
 have gM:Hid (∀ (W:World) (cs:List Nat) (dd:Nat),Zap o W sb (d.cd cs dd) s->Zci (d.cd cs dd) (addE ext f 1)->cs.length=(d.counts.set (enode f) 1).length->(∀ i,m+1<=rk i->cs.getD i 0=(d.counts.set (enode f) 1).getD i 0)->(false=true->∀ i,cs.getD i 0<=(d.counts.set (enode f) 1).getD i 0)->Chg RCnt o o w W ->
  Zbp o w sb d s rk (m+1) false (addE ext f 1) (.returned (.tuple #[])) W) :=
  fun W cs dd hs hl gI gO gt gi=>⟨cs,dd,rfl,hs,hl,by rw[gI];simp,fun i hi=>(gO i hi).trans (gn i hi),fun e i=>Nat.le_trans (gt e i) (gD e i),gi⟩
 have g9:Hid (W2=(w.setCell ⟨gc,enode f,none⟩ (.int .i64 1)).setCell ⟨sb,4,none⟩ (.int .i64 ((d.dead:Int)-1))):=by
  show _=_
  rw[gk,show ((d.dead-1:Nat):Int)=(d.dead:Int)-1 from by omega];rfl
 have g4:((enode f:Nat):Int)≠0:=by have:=gq.1;omega
 have HN:=Hd (fun W=>Zcv f W hf);have gH:sb≠gc:=fun e=>gg e.symm
 have ga:((enode f:Nat):Int)<d.counts.length:=by omega
 obtain⟨N,hN,gl,gm⟩:=gU;rw[<- hN] at g1;rw[<- gl,<- gm] at gC gF;obtain⟨B,hB⟩:∃ B,B=d.pool.tk (enode f):=⟨_,rfl⟩;rw[<- hB] at g1;rw[hc] at gh;obtain⟨k,hk⟩:∃ k,k=enode f:=⟨_,rfl⟩;rw[<- hk] at gh gw g1 g4 HN ga g9;have gR:((k:Int) == 0)=false:=by simpa using g4
 have gQ:0<k:=by omega
 have gJ:d.counts.length<=9223372036854775807:=by unfold maxLen at gB;omega
 obtain⟨dn,gz⟩:∃ n,n=d.dead:=⟨_,rfl⟩;rw[<- gz] at c4 gA g9 gy;clear ih h hx hc hv gu gP gB gv g5 gq g4 gd gT hf gr st1 st2 g2 g0 gn gD gN g3 gk gx hN gl gm hB gz gf hk
 go_enter func203,ntmps203
 go_wp2_with fail;refine(HN.out _).mono ?_;rintro x w' ⟨rfl,rfl⟩;go_wp2_with fail;rw[<- g9.out];refine(g1.out W2 (Below.refl _ _)).mono ?_;rintro x v2 ⟨rfl,g7⟩;unfold Za6;clear g9 c0 c1 c2 c3 c4 f0 gh gw HN gg gH ga gR gQ gJ gA gy;go_wp2_with fail;obtain⟨W3,g8⟩:∃ W,W=v2.alloc (.cells #[.int .i64 N.id,.int .i64 N.v,.int .i64 N.lo,.int .i64 N.hi,.int .i64 N.refs] 254):=⟨_,rfl⟩;obtain⟨bx,g6⟩:∃ bx,bx=v2.heap.size:=⟨_,rfl⟩;have gS:W2.heap.size<=bx:=by rw[g6];exact g7.size
 have gj:Below W2.heap.size W2 W3:=by rw[g8];exact g7.alloc g7.size _
 have ge:W3.heap[bx]?=some (.cells #[.int .i64 N.id,.int .i64 N.v,.int .i64 N.lo,.int .i64 N.hi,.int .i64 N.refs] 254 (0,0)):=by rw[g8,g6];exact heap_alloc_new v2 _
 rw[<- g8];rw[<- g6];clear g8 g6 g7 g1 h5;refine(gC.out _ gj).mono ?_;rintro x w1 ⟨cs1,dd1,rfl,st1,lv1,len1,low1,le1,chg1⟩;have gp:=(chg1.alien (Array.getElem?_eq_some_iff.1 ge).1 (gK.out.none gS)).trans ge;obtain⟨z0,z1,z2,z3,z4,zz⟩:=cells5 gp;have gV:=Hd st1;have gY:=Hd lv1;have gZ:=Hd len1;have HW1:=Hd low1;have gE:=Hd le1;have gG:=Hd ((go.out.trans (Chg.of_below gj RCnt o)).trans chg1);clear st1 lv1 len1 low1 le1 chg1 ge gp gj;go_wp2_with fail;refine(gF.out w1 cs1 dd1 gV.out gY.out (fun e=>by first|exact absurd e (by decide)|exact gE.out (by simp)) gG.out).mono ?_;rintro x w2 ⟨cs2,dd2,rfl,st2,lv2,len2,low2,le2,chg2⟩;have gL:=Hd (gM.out w2 cs2 dd2 st2 lv2 (len2.trans gZ.out) (fun i hi=>(low2 i (by omega)).trans (HW1.out i (by omega))) (fun e i=>by first|exact absurd e (by decide)|exact Nat.le_trans (le2 (by simp) i) (gE.out (by simp) i)) (gG.out.trans chg2));clear st2 lv2 len2 low2 le2 chg2;go_wp2_with fail;refine bodyPost_end (Zfw rfl _ _ _) rfl gL.out
theorem Zgh (o:Own)(sb:Nat)(s:Za7)(rk:Nat->Nat):∀ (m:Nat) (w:World) (d:Zag) (ext:Nat->Int) (f:Nat),Zoi o w sb d s rk ext f m ->
 Calls prog 203 #[.pointer (some ⟨sb,0,none⟩),.int .i64 f] w (Zbp o w sb d s rk m false (addE ext f 1))
 | m,w,d,ext,f,h=>by
   by_cases h0:enode f=0
   . exact Zwh h h0
   .
    obtain⟨b,hx⟩:∃ b,Zab d (enode f)=some b:=h.ok.resolve_left h0
    by_cases hc:0<Zaz d (enode f)
    . exact Zwg h hx hc
    .
     cases m with
     | zero=>exact absurd (h.low.resolve_left h0) (by omega)
     | succ m=>exact Zwf h hx (by omega) (Zgh o sb s rk m)
open Go.RowKit
theorem Zv6 {o:Own}{w:World}{sb:Nat}{d:Zag}{s:Za7}{rk:Nat->Nat}{ext:Nat->Int}{f m:Nat}(h:Zog o w sb d s rk ext f m){b:BN}(hx:Zab d (enode f)=some b)(hc:1<Zaz d (enode f)) :
 Calls prog 196 #[.pointer (some ⟨sb,0,none⟩),.int .i64 f] w (Zbp o w sb d s rk m true (addE ext f (-1))):=by
 have gk:=h.st.edge_lt h.ok;have hf:f<eMax:=by unfold eMax;omega
 have g4:=h.live.has _ _ hx;obtain⟨gc,cap,hv,g9,g8,gi,ge,ga,g5⟩:=h.st.countsAt g4;obtain⟨c0,c1,c2,c3,c4,f0⟩:=cells5 h.st.blk;rw[hv] at c3;have gd:=g5 _ g4;have gj:=ga (enode f);have gh:=h.top (enode f) _ hx;have g7:=h.st.tk_lt hx;have g3:Hid (∀ i,m<=rk i->(d.counts.set (enode f) (Zaz d (enode f)-1)).getD i 0=d.counts.getD i 0):=fun i hi=>by
  have:enode f≠i:=by
   rintro rfl;rcases h.low with h0|h0
   . have:enode f=0:=h0;omega
   . have e:f/2=enode f:=rfl;rw[e] at h0;omega
  simp only[List.getD,List.getElem?_set,if_neg this]
 have g6:Hid (true=true->∀ i,(d.counts.set (enode f) (Zaz d (enode f)-1)).getD i 0<=d.counts.getD i 0):=fun _ i=>by
  by_cases e:enode f=i
  . subst e;simp only[List.getD,List.getElem?_set];simp[g4,Zaz,List.getD]
  . simp only[List.getD,List.getElem?_set,if_neg e];omega
 have g0:Hid (Zap o (w.setCell ⟨gc,enode f,none⟩ (.int .i64 ((Zaz d (enode f)-1:Nat):Int))) sb (d.cd (d.counts.set (enode f) (Zaz d (enode f)-1)) d.dead) s/\Zci (d.cd (d.counts.set (enode f) (Zaz d (enode f)-1)) d.dead) (addE ext f (-1))) :=
  ⟨h.st.setCount hv g8 _ _,by rw[Zmb];exact h.live.lessLive hx hc⟩
 have g1:=Hd ((Chg.refl RCnt o w).setCell (p:=⟨gc,enode f,none⟩) g9 (.inr rfl) (.int .i64 ((Zaz d (enode f)-1:Nat):Int)));rw[show ((Zaz d (enode f)-1:Nat):Int)=(Zaz d (enode f):Nat)-1 from by omega] at g0 g1;have g2:((enode f:Nat):Int)≠0:=by have:=g7.1;omega
 have HN:=Hd (fun W=>Zcv f W hf);have gl:sb≠gc:=fun e=>g8 e.symm
 have gg:((enode f:Nat):Int)<d.counts.length:=by omega
 obtain⟨k,hk⟩:∃ k,k=enode f:=⟨_,rfl⟩;obtain⟨c,gf⟩:∃ c,c=Zaz d (enode f):=⟨_,rfl⟩;have gn:c<=2199023255552:=by omega
 have gr:1<c:=by omega
 rw[<- gf] at gd g0 g1 g3 g6;rw[<- hk] at gd gj g0 g1 g2 HN gg g3 g6;have gp:((k:Int) == 0)=false:=by simpa using g2
 have go:0<k:=by omega
 have gm:d.counts.length<=9223372036854775807:=by unfold maxLen at ge;omega
 have gq:(1:Int)<(c:Int):=by omega
 clear h hx hc hv g9 gi ge ga g5 hk gf gh g7 g2 g4 gk hf
 go_enter func196,ntmps196
 go_wp2_with fail;refine(HN.out _).mono ?_;rintro x w' ⟨rfl,rfl⟩;go_wp2_with fail;refine bodyPost_ret (Zfw rfl _ _ _) rfl ⟨_,_,rfl,g0.out.1,g0.out.2,by simp,g3.out,(fun e=>by first|exact absurd e (by decide)|exact g6.out (by simp)),g1.out⟩
theorem Zv7 {o:Own}{w:World}{sb:Nat}{d:Zag}{s:Za7}{rk:Nat->Nat}{ext:Nat->Int}{f m:Nat}(h:Zog o w sb d s rk ext f m)(hx:enode f=0) :
 Calls prog 196 #[.pointer (some ⟨sb,0,none⟩),.int .i64 f] w (Zbp o w sb d s rk m true (addE ext f (-1))):=by
 have hf:f<eMax:=by have:=h.st.edge_lt h.ok;unfold eMax;omega
 have g0:Hid (Zbp o w sb d s rk m true (addE ext f (-1)) (.returned (.tuple #[])) w) :=
  ⟨d.counts,d.dead,rfl,h.st,h.live.congr (fun y b hb=>by
   have:y≠0:=by rintro rfl;rw[h.acy.none0] at hb;cases hb
   have e:f/2=0:=hx;simp[addE,toE,e,Ne.symm this]),rfl,fun _ _=>rfl,fun _ _=>Nat.le_refl _,Chg.refl _ _ _⟩
 have HN:=Hd (fun W=>Zcv f W hf);rw[hx] at HN;clear h hx hf
 go_enter func196,ntmps196
 go_wp2_with fail;refine(HN.out _).mono ?_;rintro x w' ⟨rfl,rfl⟩;go_wp2_with fail;refine bodyPost_ret (Zfw rfl _ _ _) rfl g0.out
theorem Zv5 {o:Own}{w:World}{sb:Nat}{d:Zag}{s:Za7}{rk:Nat->Nat}{ext:Nat->Int}{f m:Nat}(h:Zog o w sb d s rk ext f (m+1)){b:BN}(hx:Zab d (enode f)=some b)(hc:Zaz d (enode f)=1)
 (ih:∀ w d ext f,Zog o w sb d s rk ext f m->Calls prog 196 #[.pointer (some ⟨sb,0,none⟩),.int .i64 f] w (Zbp o w sb d s rk m true (addE ext f (-1)))) :
 Calls prog 196 #[.pointer (some ⟨sb,0,none⟩),.int .i64 f] w (Zbp o w sb d s rk (m+1) true (addE ext f (-1))):=by
 have gS:=h.st.edge_lt h.ok;have hf:f<eMax:=by unfold eMax;omega
 have g5:=h.live.has _ _ hx;obtain⟨gc,cap,hv,gv,gh,gO,gB,gw,g6⟩:=h.st.countsAt g5;obtain⟨c0,c1,c2,c3,c4,f0⟩:=cells5 h.st.blk;rw[hv] at c3;have gj:=g6 _ g5;have gx:=gw (enode f);have gt:=h.st.tk_lt hx;have gu:=h.live.lessDies hx hc;have gA:d.dead<=1048577:=by
  have h1:=h.live.dead;have h2:=Ziz (f:=dead1 (Zab d) (Zaz d)) (B:=1) d.pool.at_.length (fun i _=>by unfold dead1;split<;>first|omega|(split<;>omega));have h3:Zek d.pool.at_.length (Zab d) (Zaz d)=Zaw d.pool.at_.length (dead1 (Zab d) (Zaz d)):=rfl;omega
 have gV:=Hd h.lt;have gp:∀ i,m+1<=rk i->(d.counts.set (enode f) 0).getD i 0=d.counts.getD i 0:=fun i hi=>by
  have:enode f≠i:=by
   rintro rfl;rcases h.low with h0|h0
   . have:enode f=0:=h0;omega
   . have e:f/2=enode f:=rfl;rw[e] at h0;omega
  simp only[List.getD,List.getElem?_set,if_neg this]
 have gd:true=true->∀ i,(d.counts.set (enode f) 0).getD i 0<=d.counts.getD i 0:=fun _ i=>by
  by_cases e:enode f=i
  . subst e;simp only[List.getD,List.getElem?_set];simp[g5]
  . simp only[List.getD,List.getElem?_set,if_neg e];omega
 have gM:rk (enode f)<=m:=by
  rcases h.low with h0|h0
  . have:enode f=0:=h0;omega
  . have e:f/2=enode f:=rfl;rw[e] at h0;omega
 have g3:∀ e,(okE (Zab d) e)->(∀ c,Zab d (e/2)=some c->rk (e/2)<rk (enode f))->e/2=0\/rk (e/2)<m:=fun e ho hr=>by
  rcases ho with h0|⟨c,hc⟩
  . exact .inl h0
  . exact .inr (by have:=hr c hc;omega)
 have st1:Zap o (w.setCell ⟨gc,enode f,none⟩ (.int .i64 ((0:Nat):Int))) sb (d.cd (d.counts.set (enode f) 0) d.dead) s:=h.st.setCount hv gh _ _;have g2:Zal o (w.setCell ⟨gc,enode f,none⟩ (.int .i64 ((0:Nat):Int))):=h.lt.mono (by simp[World.setCell]);have st2:Zap o ((w.setCell ⟨gc,enode f,none⟩ (.int .i64 ((0:Nat):Int))).setCell ⟨sb,4,none⟩ (.int .i64 ((d.dead+1:Nat):Int))) sb (d.cd (d.counts.set (enode f) 0) (d.dead+1)) s:=st1.setDead g2 _;have gq:=Hd (((Chg.refl RCnt o w).setCell (p:=⟨gc,enode f,none⟩) gv (.inr rfl) (.int .i64 ((0:Nat):Int))).setCell (p:=⟨sb,4,none⟩) h.st.own (.inl rfl) (.int .i64 ((d.dead+1:Nat):Int)));have g0:Zal o ((w.setCell ⟨gc,enode f,none⟩ (.int .i64 ((0:Nat):Int))).setCell ⟨sb,4,none⟩ (.int .i64 ((d.dead+1:Nat):Int))):=g2.mono (by simp[World.setCell]);have gg:=Za9 hx;have gT:∃ N,N=d.pool.has (enode f)/\N.lo=b.lo/\N.hi=b.hi:=⟨_,rfl,by rw[<- gg.2.2];rfl,by rw[<- gg.2.2];rfl⟩;have gy:addE (addE (addE (addE (bump ext (enode f) (-1)) b.lo 1) b.hi 1) b.lo (-1)) b.hi (-1)=addE ext f (-1):=by
  funext y;have h1:=congrFun (Zmb (ext:=ext) (f:=f)) y;have h2:enode f=f/2:=rfl;rw[h2,h1];simp only[addE];omega
 obtain⟨W2,gm⟩:∃ W,W=(w.setCell ⟨gc,enode f,none⟩ (.int .i64 ((0:Nat):Int))).setCell ⟨sb,4,none⟩ (.int .i64 ((d.dead+1:Nat):Int)):=⟨_,rfl⟩;rw[<- gm] at st2 gq g0;have gJ:=Hd g0;have g1:Hid (∀ W:World,Below W2.heap.size W2 W->Calls prog 194 #[.pointer (some ⟨s.pb,0,none⟩),.int .i64 (enode f:Nat)] W fun x w'=>x=.returned (.tuple #[Za6 (d.pool.has (enode f)),.bool (d.pool.tk (enode f))])/\Below W.heap.size W w') :=
  Hd (fun W hb=>Zc8 o s.pb d.pool (enode f) W (st2.pool.below hb g0) (g0.mono hb.size))
 have gZ:Hid (∀ W:World,Below W2.heap.size W2 W->W.cell? ⟨sb,1,none⟩=some (.pointer (some ⟨s.pb,0,none⟩))):=Hd (fun W hb=>(cells5 (st2.below g0 hb).blk).2.1);have gC:Hid (∀ W:World,Below W2.heap.size W2 W->Calls prog 196 #[.pointer (some ⟨sb,0,none⟩),.int .i64 (b.lo:Nat)] W (Zbp o W sb (d.cd (d.counts.set (enode f) 0) (d.dead+1)) s rk m true (addE (addE (addE (bump ext (enode f) (-1)) b.lo 1) b.hi 1) b.lo (-1)))) :=
  Hd (fun W hb=>ih W _ _ b.lo ⟨st2.below g0 hb,g0.mono hb.size,h.acy,h.acy.okLo _ _ hx,gu,fun y q hq=>Nat.le_trans (gd rfl y) (h.top y q hq),fun y q hq=>by
   have h1:=h.pos y q hq;have h2:toE f y=if enode f=y then 1 else 0:=rfl
   have h3:=Zb9 b.lo y;have h4:=Zb9 b.hi y;simp only[addE,bump]
   by_cases e:y=enode f
   . rw[if_pos e.symm] at h2;rw[if_pos e];omega
   . rw[if_neg (Ne.symm e)] at h2;rw[if_neg e];omega,g3 b.lo (h.acy.okLo _ _ hx) (fun c hc=>h.acy.ltLo _ _ c hx hc)⟩)
 have gE:Hid (∀ (W:World) (cs:List Nat) (dd:Nat),Zap o W sb ((d.cd (d.counts.set (enode f) 0) (d.dead+1)).cd cs dd) s->Zci ((d.cd (d.counts.set (enode f) 0) (d.dead+1)).cd cs dd) (addE (addE (addE (bump ext (enode f) (-1)) b.lo 1) b.hi 1) b.lo (-1))->(true=true->∀ i,cs.getD i 0<=(d.counts.set (enode f) 0).getD i 0)->Chg RCnt o o w W ->
  Calls prog 196 #[.pointer (some ⟨sb,0,none⟩),.int .i64 (b.hi:Nat)] W (Zbp o W sb ((d.cd (d.counts.set (enode f) 0) (d.dead+1)).cd cs dd) s rk m true (addE ext f (-1)))) :=
  Hd (fun W cs dd hs hl gi gk=>by
   rw[<- gy]
   exact ih W _ _ b.hi ⟨hs,gV.out.mono gk.size,h.acy,h.acy.okHi _ _ hx,hl,fun y q hq=>Nat.le_trans (Nat.le_trans (gi rfl y) (gd rfl y)) (h.top y q hq),fun y q hq=>by
    have h1:=h.pos y q hq;have h2:toE f y=if enode f=y then 1 else 0:=rfl
    have h3:=Zb9 b.lo y;have h4:=Zb9 b.hi y;simp only[addE,bump]
    by_cases e:y=enode f
    . rw[if_pos e.symm] at h2;rw[if_pos e];omega
    . rw[if_neg (Ne.symm e)] at h2;rw[if_neg e];omega,g3 b.hi (h.acy.okHi _ _ hx) (fun c hc=>h.acy.ltHi _ _ c hx hc)⟩)
 have gL:Hid (∀ (W:World) (cs:List Nat) (dd:Nat),Zap o W sb (d.cd cs dd) s->Zci (d.cd cs dd) (addE ext f (-1))->cs.length=(d.counts.set (enode f) 0).length->(∀ i,m+1<=rk i->cs.getD i 0=(d.counts.set (enode f) 0).getD i 0)->(true=true->∀ i,cs.getD i 0<=(d.counts.set (enode f) 0).getD i 0)->Chg RCnt o o w W ->
  Zbp o w sb d s rk (m+1) true (addE ext f (-1)) (.returned (.tuple #[])) W) :=
  fun W cs dd hs hl gH gN gi gk=>⟨cs,dd,rfl,hs,hl,by rw[gH];simp,fun i hi=>(gN i hi).trans (gp i hi),fun e i=>Nat.le_trans (gi e i) (gd e i),gk⟩
 have ga:Hid (W2=(w.setCell ⟨gc,enode f,none⟩ (.int .i64 0)).setCell ⟨sb,4,none⟩ (.int .i64 ((d.dead:Int)+1))):=by
  show _=_
  rw[gm,show ((d.dead+1:Nat):Int)=(d.dead:Int)+1 from by omega];rfl
 have g4:((enode f:Nat):Int)≠0:=by have:=gt.1;omega
 have HN:=Hd (fun W=>Zcv f W hf);have gG:sb≠gc:=fun e=>gh e.symm
 have ge:((enode f:Nat):Int)<d.counts.length:=by omega
 obtain⟨N,hN,gn,go⟩:=gT;rw[<- hN] at g1;rw[<- gn,<- go] at gC gE;obtain⟨B,hB⟩:∃ B,B=d.pool.tk (enode f):=⟨_,rfl⟩;rw[<- hB] at g1;rw[hc] at gj;obtain⟨k,hk⟩:∃ k,k=enode f:=⟨_,rfl⟩;rw[<- hk] at gj gx g1 g4 HN ge ga;have gQ:((k:Int) == 0)=false:=by simpa using g4
 have gP:0<k:=by omega
 have gI:d.counts.length<=9223372036854775807:=by unfold maxLen at gB;omega
 obtain⟨dn,gz⟩:∃ n,n=d.dead:=⟨_,rfl⟩;rw[<- gz] at c4 gA ga;clear ih h hx hc hv gv gO gB gw g6 gt g4 g5 gS hf gu st1 st2 g2 g0 gp gd gM g3 gm gy hN gn go hB gz gg hk
 go_enter func196,ntmps196
 go_wp2_with fail;refine(HN.out _).mono ?_;rintro x w' ⟨rfl,rfl⟩;go_wp2_with fail;rw[<- ga.out];refine(g1.out W2 (Below.refl _ _)).mono ?_;rintro x v2 ⟨rfl,g8⟩;unfold Za6;clear ga c0 c1 c2 c3 c4 f0 gj gx HN gh gG ge gQ gP gI gA;go_wp2_with fail;obtain⟨W3,g9⟩:∃ W,W=v2.alloc (.cells #[.int .i64 N.id,.int .i64 N.v,.int .i64 N.lo,.int .i64 N.hi,.int .i64 N.refs] 254):=⟨_,rfl⟩;obtain⟨bx,g7⟩:∃ bx,bx=v2.heap.size:=⟨_,rfl⟩;have gR:W2.heap.size<=bx:=by rw[g7];exact g8.size
 have gl:Below W2.heap.size W2 W3:=by rw[g9];exact g8.alloc g8.size _
 have gf:W3.heap[bx]?=some (.cells #[.int .i64 N.id,.int .i64 N.v,.int .i64 N.lo,.int .i64 N.hi,.int .i64 N.refs] 254 (0,0)):=by rw[g9,g7];exact heap_alloc_new v2 _
 rw[<- g9];rw[<- g7];clear g9 g7 g8 g1 gZ;refine(gC.out _ gl).mono ?_;rintro x w1 ⟨cs1,dd1,rfl,st1,lv1,len1,low1,le1,chg1⟩;have gr:=(chg1.alien (Array.getElem?_eq_some_iff.1 gf).1 (gJ.out.none gR)).trans gf;obtain⟨z0,z1,z2,z3,z4,zz⟩:=cells5 gr;have gU:=Hd st1;have gX:=Hd lv1;have gY:=Hd len1;have HW1:=Hd low1;have gD:=Hd le1;have gF:=Hd ((gq.out.trans (Chg.of_below gl RCnt o)).trans chg1);clear st1 lv1 len1 low1 le1 chg1 gf gr gl;go_wp2_with fail;refine(gE.out w1 cs1 dd1 gU.out gX.out (fun e=>by first|exact absurd e (by decide)|exact gD.out (by simp)) gF.out).mono ?_;rintro x w2 ⟨cs2,dd2,rfl,st2,lv2,len2,low2,le2,chg2⟩;have gK:=Hd (gL.out w2 cs2 dd2 st2 lv2 (len2.trans gY.out) (fun i hi=>(low2 i (by omega)).trans (HW1.out i (by omega))) (fun e i=>by first|exact absurd e (by decide)|exact Nat.le_trans (le2 (by simp) i) (gD.out (by simp) i)) (gF.out.trans chg2));clear st2 lv2 len2 low2 le2 chg2;go_wp2_with fail;refine bodyPost_end (Zfw rfl _ _ _) rfl gK.out
theorem Zgg (o:Own)(sb:Nat)(s:Za7)(rk:Nat->Nat):∀ (m:Nat) (w:World) (d:Zag) (ext:Nat->Int) (f:Nat),Zog o w sb d s rk ext f m ->
 Calls prog 196 #[.pointer (some ⟨sb,0,none⟩),.int .i64 f] w (Zbp o w sb d s rk m true (addE ext f (-1)))
 | m,w,d,ext,f,h=>by
   by_cases h0:enode f=0
   . exact Zv7 h h0
   .
    obtain⟨b,hx⟩:∃ b,Zab d (enode f)=some b:=h.ok.resolve_left h0
    have hp:0<Zaz d (enode f):=h.live.cnt.pos_of_ext hx (by
     have h1:=h.pos _ _ hx;rw[show toE f (enode f)=1 from Zjg f] at h1;omega)
    by_cases hc:1<Zaz d (enode f)
    . exact Zv6 h hx hc
    .
     cases m with
     | zero=>exact absurd (h.low.resolve_left h0) (by omega)
     | succ m=>exact Zv5 h hx (by omega) (Zgg o sb s rk m)
open Go.RowKit
def Zfi (r:Role):Prop:=r=.pool\/r=.slots\/r=.taken\/r=.free
def Zar (r:Role):Prop:=r=.store\/r=.levels\/r=.vars\/r=.level\/Zfi r\/r=.tabs\/(∃ v,r=.tab v\/r=.tmap v)\/r=.counts
section
variable {o o':Own}{w w':World}{sb:Nat}{d:Zag}{s:Za7}
theorem Zap.setPool (h:Zap o w sb d s)(hlt:Zal o w){p':Zao}(hp:Zat o' w' s.pb p')(hc:Chg Zfi o o' w w'):Zap o' w' sb { d with pool:=p' } s:=by
 have n:∀ {r},r ≠ .pool->r ≠ .slots->r ≠ .taken->r ≠ .free->¬ Zfi r:=fun a b c d h=>by rcases h with h|h|h|h<;>contradiction
 exact⟨hc.ext _ _ h.own,hc.ext _ _ h.ownl,(hc.same hlt h.own (n (by simp) (by simp) (by simp) (by simp))).trans h.blk,(hc.same hlt h.ownl (n (by simp) (by simp) (by simp) (by simp))).trans h.lev,
  h.vars.chg hc hlt (n (by simp) (by simp) (by simp) (by simp)),h.level.chg hc hlt (n (by simp) (by simp) (by simp) (by simp)),hp,h.tabs.chg hc hlt (n (by simp) (by simp) (by simp) (by simp)),
  fun v hv=>(h.tab v hv).chg hc hlt (n (by simp) (by simp) (by simp) (by simp)) (n (by simp) (by simp) (by simp) (by simp)),h.counts.chg hc hlt (n (by simp) (by simp) (by simp) (by simp)),h.len,h.tlen⟩
theorem Zap.setTab (h:Zap o w sb d s)(hlt:Zal o w){v:Nat}{f':Nat×Nat->Option Nat}(ht:Zdk o' w' v (s.ts.getD v 0) f')(hc:Chg (· = .tmap v) o o' w w'):Zap o' w' sb { d with tab:=fun u=>if u=v then f' else d.tab u } s:=by
 refine⟨hc.ext _ _ h.own,hc.ext _ _ h.ownl,(hc.same hlt h.own (by simp)).trans h.blk,(hc.same hlt h.ownl (by simp)).trans h.lev,
  h.vars.chg hc hlt (by simp),h.level.chg hc hlt (by simp),h.pool.chg hc hlt (by simp) (by simp) (by simp) (by simp),h.tabs.chg hc hlt (by simp),
  fun u hu=>?_,h.counts.chg hc hlt (by simp),h.len,h.tlen⟩
 dsimp only
 by_cases e:u=v
 . subst e;rw[if_pos rfl];exact ht
 . rw[if_neg e];exact(h.tab u hu).chg hc hlt (by simp) (by simpa using e)
end
def Za0 (d:Zag):Nat->Int:=fun i=>if d.pool.tk i=true then ((d.pool.nd i).refs:Int) else 0
structure Zgo (d d':Zag)(f:Nat)(sg:Int):Prop where
 vars:d'.vars=d.vars
 level:d'.level=d.level
 tab:d'.tab=d.tab
 nodes:Zab d'=Zab d
 many:d'.pool.many=d.pool.many
 free:d'.pool.free=d.pool.free
 room:d'.pool.room=d.pool.room
 len:d'.pool.at_.length=d.pool.at_.length
 clen:d'.counts.length=d.counts.length
 ext:∀ i,i≠0->Za0 d' i=Za0 d i+sg*toE f i
 live:Zci d' (Za0 d')
def Zfa (o:Own)(w:World)(sb:Nat)(d:Zag)(s:Za7)(f:Nat)(sg:Int)(e:Ending)(w':World):Prop :=
 ∃ d',e=.returned (.int .i64 0)/\Zap o w' sb d' s/\Zal o w'/\Zgo d d' f sg/\Chg Zar o o w w'
theorem Zjd:∀ r,RCnt r->Zar r:=fun r h=>by rcases h with h|h<;>simp[Zar,h]
theorem Zha:∀ r:Role,r=.slots->Zar r:=fun r h=>by simp[Zar,Zfi,h]
def RN.ref (n:RN)(k:Nat):RN:={ n with refs:=k }
theorem Zhb {d:Zag}{x k:Nat}(hk:x<d.pool.at_.length)(ht:d.pool.tk x=true):Zab { d with pool:=d.pool.setNd x ((d.pool.nd x).ref k) }=Zab d:=by
 funext i;unfold Zab;rw[Zao.setNd_get hk ht]
 by_cases e:i=x
 . subst e;simp[Zao.get,ht,RN.ref,bnOf]
 . rw[if_neg e]
theorem Zho {d:Zag}{x k:Nat}(hk:x<d.pool.at_.length)(ht:d.pool.tk x=true):Za0 { d with pool:=d.pool.setNd x ((d.pool.nd x).ref k) }=fun i=>if i=x then (k:Int) else Za0 d i:=by
 funext i;unfold Za0;have h1:(d.pool.setNd x ((d.pool.nd x).ref k)).tk i=d.pool.tk i:=rfl;have h2:(d.pool.setNd x ((d.pool.nd x).ref k)).nd i=if i=x then (d.pool.nd x).ref k else d.pool.nd i:=Zir hk i
 dsimp only;rw[h1,h2]
 by_cases e:i=x
 . subst e;simp[ht,RN.ref]
 . simp[e]
theorem Zcq {d:Zag}{x:Nat}(ht:d.pool.tk x=true):Za0 d x=((d.pool.nd x).refs:Int):=by simp[Za0,ht]
theorem Zlf {d:Zag}{x k:Nat}{ext:Nat->Int}(hk:x<d.pool.at_.length)(ht:d.pool.tk x=true)(h:Zci d ext):Zci { d with pool:=d.pool.setNd x ((d.pool.nd x).ref k) } ext:=by
 have hn:=Zhb (k:=k) hk ht;have hL:({ d with pool:=d.pool.setNd x ((d.pool.nd x).ref k) }:Zag).pool.at_.length=d.pool.at_.length:=by simp[Zao.setNd]
 refine⟨?_,?_,?_⟩
 . rw[hn,hL];exact h.cnt
 . rw[hn,hL];exact h.dead
 . rw[hn];exact h.has
theorem Zl6 {o:Own}{w:World}{sb:Nat}{d:Zag}{s:Za7}(h:Zap o w sb d s)(hlt:Zal o w)(hl:Zci d (Za0 d))(f:Nat)(hf:f<eMax)(hx:enode f=0) :
 Calls prog 158 #[.pointer (some ⟨sb,0,none⟩),.int .i64 f] w (Zfa o w sb d s f 1):=by
 obtain⟨c0,c1,c2,c3,c4,f0⟩:=cells5 h.blk;have lsb:sb<w.heap.size:=Zaa c0;have g9:Hid (∀ W:World,Below w.heap.size w W->Zfa o w sb d s f 1 (.returned (.int .i64 0)) W):=fun W hb =>
  ⟨d,rfl,h.below hlt hb,hlt.mono hb.size,⟨rfl,rfl,rfl,rfl,rfl,rfl,rfl,rfl,rfl,fun i hi=>by
   have e:f/2=0:=hx;simp[toE,e,Ne.symm hi],hl⟩,Chg.of_below hb _ _⟩
 have gk:(decide (enode f=0)||d.pool.tk (enode f))=true:=by rw[hx];rfl
 have gi:Hid (∀ W:World,Below w.heap.size w W->Calls prog 188 #[.pointer (some ⟨sb,0,none⟩),.int .i64 f] W fun x w'=>x=.returned (.bool true)/\Below W.heap.size W w'):=fun W hb=>by
  have h1:=Zbl (h.below hlt hb) (hlt.mono hb.size) f hf;rw[gk] at h1;exact h1
 have gu:d.pool.tk 0=false:=h.pool.zero;have g7:Hid (∀ W:World,Below w.heap.size w W->Calls prog 194 #[.pointer (some ⟨s.pb,0,none⟩),.int .i64 (enode f:Nat)] W fun x w'=>x=.returned (.tuple #[Za6 (d.pool.has (enode f)),.bool (d.pool.tk (enode f))])/\Below W.heap.size W w') :=
  Hd (fun W hb=>Zc8 o s.pb d.pool (enode f) W (h.pool.below hb hlt) (hlt.mono hb.size))
 have g5:Hid (∀ W:World,Below w.heap.size w W->W.cell? ⟨sb,1,none⟩=some (.pointer (some ⟨s.pb,0,none⟩))):=Hd (fun W hb=>(hb.cell (p:=⟨sb,1,none⟩) lsb).trans c1);have HN:=Hd (fun W=>Zcv f W hf);have gj:d.pool.tk (enode f)=false:=by rw[hx];exact gu
 obtain⟨N,hN⟩:∃ N,N=d.pool.has (enode f):=⟨_,rfl⟩;obtain⟨B,hB⟩:∃ B,B=d.pool.tk (enode f):=⟨_,rfl⟩;obtain⟨k,hk⟩:∃ k,k=enode f:=⟨_,rfl⟩;rw[<- hN,<- hB,<- hk] at g7;rw[<- hk] at HN;have HB:=Hd (hB.trans gj);clear h hlt hl hf hx gk c0 c1 c2 c3 c4 f0 lsb gu gj hN hk hB
 go_enter func158,ntmps158
 go_wp2_with fail;refine(gi.out _ (Below.refl _ _)).mono ?_;rintro x w1 ⟨rfl,gx⟩;have g0:=Hd gx;clear gx;go_upto_region 5 with fail;refine Zbs (fun W:World=>Below w.heap.size w W) 13 (by kernel_rfl) (Zak g0.out 1) ?_;refine Zac 0 rfl rfl (by kernel_rfl) ?_;apply Exists.intro;refine⟨fun w' hw=>?_,?_⟩
 . have gg:=g5.out w' hw;go_simp;rfl
 simp only[Zae];refine Zac 1 rfl rfl (by kernel_rfl) ?_;apply Exists.intro;refine⟨fun w' hw=>?_,?_⟩
 . have gg:=g5.out w' hw;go_simp;rfl
 simp only[Zae];refine Zac 2 rfl rfl (by kernel_rfl) ?_;apply Exists.intro;refine⟨fun w' hw=>?_,?_⟩
 . have gg:=g5.out w' hw;go_simp;rfl
 simp only[Zae];refine Zac 3 rfl rfl (by kernel_rfl) ?_;apply Exists.intro;refine⟨fun w' hw=>?_,?_⟩
 . have gg:=g5.out w' hw;go_simp;rfl
 simp only[Zae];refine Zac 4 rfl rfl (by kernel_rfl) ?_;apply Exists.intro;refine⟨fun w' hw=>?_,?_⟩
 . have gg:=g5.out w' hw;go_simp;rfl
 simp only[Zae];refine Zan [5,10] (by kernel_rfl) (fun i hi hS o ho=>?_);simp only[Zbf] at hi;rcases hi with rfl|rfl
 .
  skip
  simp only[Za2] at ho;subst ho;refine⟨rfl,?_⟩;refine Zas (v:=(.int .i64 k)) (R:=fun w'=>w1.drew=w') (by go_simp) (HN.out _) ?_;rintro w' rfl;refine⟨(Zak g0.out 1),?_⟩;simp only[Zae];refine Zan [6,10] (by kernel_rfl) (fun i hi hS o ho=>?_);simp only[Zbf] at hi;rcases hi with rfl|rfl
  .
   skip
   simp only[Za2] at ho;subst ho;refine⟨rfl,?_⟩;refine Zas (v:=(.tuple #[Za6 N,.bool B])) (R:=fun w'=>Below (w1.drew).heap.size (w1.drew) w') (by go_simp) (g7.out _ (Zak g0.out 1)) ?_;intro v2 gy;have gh:=(Zak g0.out 1).trans (gy.mono (Zak g0.out 1).size);refine⟨gh,?_⟩;simp only[Zae];unfold Za6;refine Zac 7 rfl rfl (by kernel_rfl) ?_;apply Exists.intro;refine⟨fun w' hw=>?_,?_⟩
   . clear hw;go_simp;rfl
   simp only[Zae];refine Zac 8 rfl rfl (by kernel_rfl) ?_;apply Exists.intro;refine⟨fun w' hw=>?_,?_⟩
   . clear hw;go_simp;rfl
   simp only[Zae];refine Zac 9 rfl rfl (by kernel_rfl) ?_;apply Exists.intro;refine⟨fun w' hw=>?_,?_⟩
   . clear hw;go_simp;rfl
   simp only[Zae];refine Zan [10] (by kernel_rfl) (fun i hi hS o ho=>?_);simp only[Zbf] at hi;subst hi;simp only[Za2] at ho;subst ho;refine⟨rfl,?_⟩;have gl:=gh.trans ((Zad (v2) (.cells #[.int .i64 0,.int .i64 0,.int .i64 0,.int .i64 0,.int .i64 0] 254)).mono gh.size);have gf:=heap_alloc_new (v2) (.cells #[.int .i64 0,.int .i64 0,.int .i64 0,.int .i64 0,.int .i64 0] 254);have g2:w.heap.size<=(v2).heap.size:=gh.size;refine Zay (v:=.pointer (some ⟨(v2).heap.size,0,none⟩)) (w':=(v2).alloc (.cells #[.int .i64 0,.int .i64 0,.int .i64 0,.int .i64 0,.int .i64 0] 254)) (by go_simp) ⟨gl,?_⟩;simp only[Zae];obtain⟨bx,g3⟩:∃ bx,bx=(v2).heap.size:=⟨_,rfl⟩;rw[<- g3] at gf g2 ⊢;obtain⟨u3,gt⟩:∃ u,u=(v2).alloc (.cells #[.int .i64 0,.int .i64 0,.int .i64 0,.int .i64 0,.int .i64 0] 254):=⟨_,rfl⟩;rw[<- gt] at gf gl ⊢;clear gt g3;refine Zan [11] (by kernel_rfl) (fun i hi hS o ho=>?_);simp only[Zbf] at hi;subst hi;simp only[Za2] at ho;subst ho;refine⟨rfl,?_⟩;obtain⟨e0,e1,e2,e3,e4,fz⟩:=cells5 gf;refine Zbd (w':=set5 u3 bx 0 N) rfl (Zav (k:=0) fz e0 e1 e2 e3 e4 _ _ _ _ _) ?_;have g1:Below w.heap.size w (set5 u3 bx 0 N):=Zbc gl g2 N;have ga:=Zbr gf N;refine⟨g1,?_⟩;simp only[Zae];clear e0 e1 e2 e3 e4 fz;refine Zac 12 rfl rfl (by kernel_rfl) ?_;apply Exists.intro;refine⟨fun w' hw=>?_,?_⟩
   . clear hw;go_simp;rfl
   simp only[Zae];refine Zbm (by kernel_rfl) ?_;obtain rfl:B=false:=HB.out;have g6:=Hd g1;obtain⟨W3,g4⟩:∃ W,W=set5 u3 bx 0 N:=⟨_,rfl⟩;rw[<- g4] at g6 ⊢;clear g4 g1 ga g7 HN gi g5 g0 HB;go_wp2_with fail;go_ret;exact g9.out _ g6.out
  .
   skip
   simp only[Za2] at ho;subst ho;refine⟨rfl,?_⟩;have gc:=(Zak g0.out 1).trans ((Zad (w1.drew) (.cells #[.int .i64 0,.int .i64 0,.int .i64 0,.int .i64 0,.int .i64 0] 254)).mono (Zak g0.out 1).size);have ge:=heap_alloc_new (w1.drew) (.cells #[.int .i64 0,.int .i64 0,.int .i64 0,.int .i64 0,.int .i64 0] 254);have g2:w.heap.size<=(w1.drew).heap.size:=(Zak g0.out 1).size;refine Zay (v:=.pointer (some ⟨(w1.drew).heap.size,0,none⟩)) (w':=(w1.drew).alloc (.cells #[.int .i64 0,.int .i64 0,.int .i64 0,.int .i64 0,.int .i64 0] 254)) (by go_simp) ⟨gc,?_⟩;simp only[Zae];obtain⟨bx,g3⟩:∃ bx,bx=(w1.drew).heap.size:=⟨_,rfl⟩;rw[<- g3] at ge g2 ⊢;obtain⟨u4,gr⟩:∃ u,u=(w1.drew).alloc (.cells #[.int .i64 0,.int .i64 0,.int .i64 0,.int .i64 0,.int .i64 0] 254):=⟨_,rfl⟩;rw[<- gr] at ge gc ⊢;clear gr g3;refine Zan [6] (by kernel_rfl) (fun i hi hS o ho=>?_);simp only[Zbf] at hi;subst hi;simp only[Za2] at ho;subst ho;refine⟨rfl,?_⟩;refine Zas (v:=(.tuple #[Za6 N,.bool B])) (R:=fun w'=>Below (u4).heap.size (u4) w') (by go_simp) (g7.out _ gc) ?_;intro v5 gp;have gw:=gc.trans (gp.mono gc.size);refine⟨gw,?_⟩;simp only[Zae];unfold Za6;have gn:=(gp.block _ (Array.getElem?_eq_some_iff.1 ge).1).trans ge;refine Zac 7 rfl rfl (by kernel_rfl) ?_;apply Exists.intro;refine⟨fun w' hw=>?_,?_⟩
   . clear hw;go_simp;rfl
   simp only[Zae];refine Zac 8 rfl rfl (by kernel_rfl) ?_;apply Exists.intro;refine⟨fun w' hw=>?_,?_⟩
   . clear hw;go_simp;rfl
   simp only[Zae];refine Zac 9 rfl rfl (by kernel_rfl) ?_;apply Exists.intro;refine⟨fun w' hw=>?_,?_⟩
   . clear hw;go_simp;rfl
   simp only[Zae];refine Zan [11] (by kernel_rfl) (fun i hi hS o ho=>?_);simp only[Zbf] at hi;subst hi;simp only[Za2] at ho;subst ho;refine⟨rfl,?_⟩;obtain⟨e0,e1,e2,e3,e4,fz⟩:=cells5 gn;refine Zbd (w':=set5 v5 bx 0 N) rfl (Zav (k:=0) fz e0 e1 e2 e3 e4 _ _ _ _ _) ?_;have g1:Below w.heap.size w (set5 v5 bx 0 N):=Zbc gw g2 N;have ga:=Zbr gn N;refine⟨g1,?_⟩;simp only[Zae];clear e0 e1 e2 e3 e4 fz;refine Zac 12 rfl rfl (by kernel_rfl) ?_;apply Exists.intro;refine⟨fun w' hw=>?_,?_⟩
   . clear hw;go_simp;rfl
   simp only[Zae];refine Zbm (by kernel_rfl) ?_;obtain rfl:B=false:=HB.out;have g6:=Hd g1;obtain⟨W3,g4⟩:∃ W,W=set5 v5 bx 0 N:=⟨_,rfl⟩;rw[<- g4] at g6 ⊢;clear g4 g1 ga g7 HN gi g5 g0 HB;go_wp2_with fail;go_ret;exact g9.out _ g6.out
 .
  skip
  simp only[Za2] at ho;subst ho;refine⟨rfl,?_⟩;have g8:=(Zak g0.out 1).trans ((Zad (w1.drew) (.cells #[.int .i64 0,.int .i64 0,.int .i64 0,.int .i64 0,.int .i64 0] 254)).mono (Zak g0.out 1).size);have gd:=heap_alloc_new (w1.drew) (.cells #[.int .i64 0,.int .i64 0,.int .i64 0,.int .i64 0,.int .i64 0] 254);have g2:w.heap.size<=(w1.drew).heap.size:=(Zak g0.out 1).size;refine Zay (v:=.pointer (some ⟨(w1.drew).heap.size,0,none⟩)) (w':=(w1.drew).alloc (.cells #[.int .i64 0,.int .i64 0,.int .i64 0,.int .i64 0,.int .i64 0] 254)) (by go_simp) ⟨g8,?_⟩;simp only[Zae];obtain⟨bx,g3⟩:∃ bx,bx=(w1.drew).heap.size:=⟨_,rfl⟩;rw[<- g3] at gd g2 ⊢;obtain⟨u6,gq⟩:∃ u,u=(w1.drew).alloc (.cells #[.int .i64 0,.int .i64 0,.int .i64 0,.int .i64 0,.int .i64 0] 254):=⟨_,rfl⟩;rw[<- gq] at gd g8 ⊢;clear gq g3;refine Zan [5] (by kernel_rfl) (fun i hi hS o ho=>?_);simp only[Zbf] at hi;subst hi;simp only[Za2] at ho;subst ho;refine⟨rfl,?_⟩;refine Zas (v:=(.int .i64 k)) (R:=fun w'=>u6=w') (by go_simp) (HN.out _) ?_;rintro w' rfl;refine⟨g8,?_⟩;simp only[Zae];refine Zan [6] (by kernel_rfl) (fun i hi hS o ho=>?_);simp only[Zbf] at hi;subst hi;simp only[Za2] at ho;subst ho;refine⟨rfl,?_⟩;refine Zas (v:=(.tuple #[Za6 N,.bool B])) (R:=fun w'=>Below (u6).heap.size (u6) w') (by go_simp) (g7.out _ g8) ?_;intro v8 go;have gv:=g8.trans (go.mono g8.size);refine⟨gv,?_⟩;simp only[Zae];unfold Za6;have gm:=(go.block _ (Array.getElem?_eq_some_iff.1 gd).1).trans gd;refine Zac 7 rfl rfl (by kernel_rfl) ?_;apply Exists.intro;refine⟨fun w' hw=>?_,?_⟩
  . clear hw;go_simp;rfl
  simp only[Zae];refine Zac 8 rfl rfl (by kernel_rfl) ?_;apply Exists.intro;refine⟨fun w' hw=>?_,?_⟩
  . clear hw;go_simp;rfl
  simp only[Zae];refine Zac 9 rfl rfl (by kernel_rfl) ?_;apply Exists.intro;refine⟨fun w' hw=>?_,?_⟩
  . clear hw;go_simp;rfl
  simp only[Zae];refine Zan [11] (by kernel_rfl) (fun i hi hS o ho=>?_);simp only[Zbf] at hi;subst hi;simp only[Za2] at ho;subst ho;refine⟨rfl,?_⟩;obtain⟨e0,e1,e2,e3,e4,fz⟩:=cells5 gm;refine Zbd (w':=set5 v8 bx 0 N) rfl (Zav (k:=0) fz e0 e1 e2 e3 e4 _ _ _ _ _) ?_;have g1:Below w.heap.size w (set5 v8 bx 0 N):=Zbc gv g2 N;have ga:=Zbr gm N;refine⟨g1,?_⟩;simp only[Zae];clear e0 e1 e2 e3 e4 fz;refine Zac 12 rfl rfl (by kernel_rfl) ?_;apply Exists.intro;refine⟨fun w' hw=>?_,?_⟩
  . clear hw;go_simp;rfl
  simp only[Zae];refine Zbm (by kernel_rfl) ?_;obtain rfl:B=false:=HB.out;have g6:=Hd g1;obtain⟨W3,g4⟩:∃ W,W=set5 v8 bx 0 N:=⟨_,rfl⟩;rw[<- g4] at g6 ⊢;clear g4 g1 ga g7 HN gi g5 g0 HB;go_wp2_with fail;go_ret;exact g9.out _ g6.out
theorem Zl5 {o:Own}{w:World}{sb:Nat}{d:Zag}{s:Za7}(h:Zap o w sb d s)(hlt:Zal o w)(hl:Zci d (Za0 d)){rk:Nat->Nat}(ha:Acy (Zab d) rk)(f:Nat){b:BN}(hx:Zab d (enode f)=some b)
 (htop:∀ y b,Zab d y=some b->Za0 d y<1099511627776) :
 Calls prog 158 #[.pointer (some ⟨sb,0,none⟩),.int .i64 f] w (Zfa o w sb d s f 1):=by
 obtain⟨c0,c1,c2,c3,c4,f0⟩:=cells5 h.blk;have lsb:sb<w.heap.size:=Zaa c0;have gC:okE (Zab d) f:=.inr ⟨b,hx⟩;have hf:f<eMax:=by have:=h.edge_lt gC;unfold eMax;omega
 have g3:=Za9 hx;have gq:=h.tk_lt hx;have gV:(d.pool.nd (enode f)).refs<1099511627776:=by have:=htop _ _ hx;rw[Zcq g3.1] at this;omega
 have hid:(d.pool.nd (enode f)).id=enode f:=h.pool.id _ g3.1;have gD:(decide (enode f=0)||d.pool.tk (enode f))=true:=by rw[g3.1];simp
 have gS:Hid (∀ W:World,Below w.heap.size w W->Calls prog 188 #[.pointer (some ⟨sb,0,none⟩),.int .i64 f] W fun x w'=>x=.returned (.bool true)/\Below W.heap.size W w'):=fun W hb=>by
  have h1:=Zbl (h.below hlt hb) (hlt.mono hb.size) f hf;rw[gD] at h1;exact h1
 have g7:Hid (∀ W:World,Below w.heap.size w W->Calls prog 194 #[.pointer (some ⟨s.pb,0,none⟩),.int .i64 (enode f:Nat)] W fun x w'=>x=.returned (.tuple #[Za6 (d.pool.has (enode f)),.bool (d.pool.tk (enode f))])/\Below W.heap.size W w') :=
  Hd (fun W hb=>Zc8 o s.pb d.pool (enode f) W (h.pool.below hb hlt) (hlt.mono hb.size))
 have gj:Hid (∀ W:World,Below w.heap.size w W->W.cell? ⟨sb,1,none⟩=some (.pointer (some ⟨s.pb,0,none⟩))):=Hd (fun W hb=>(hb.cell (p:=⟨sb,1,none⟩) lsb).trans c1);have HN:=Hd (fun W=>Zcv f W hf);obtain⟨r,hr⟩:∃ r,r=(d.pool.nd (enode f)).refs:=⟨_,rfl⟩
 skip
 have go:Hid (∀ W:World,Below w.heap.size w W->Calls prog 195 #[.pointer (some ⟨s.pb,0,none⟩),Za6 ((d.pool.nd (enode f)).ref (r+1))] W fun x w'=>x=.returned (.int .i64 0)/\Zap o w' sb { d with pool:=d.pool.setNd (enode f) ((d.pool.nd (enode f)).ref (r+1)) } s/\Chg Zar o o w w'/\Zal o w'):=fun W hb=>by
  have gY:d.pool.tk ((d.pool.nd (enode f)).ref (r+1)).id=true:=by show d.pool.tk (d.pool.nd (enode f)).id=true;rw[hid];exact g3.1
  refine(Zh9 o s.pb d.pool ((d.pool.nd (enode f)).ref (r+1)) W (h.pool.below hb hlt) (hlt.mono hb.size) gY).mono ?_;rintro e w' ⟨rfl,hp,hc,gA⟩;have e1:((d.pool.nd (enode f)).ref (r+1)).id=enode f:=hid;rw[e1] at hp;exact⟨rfl,(h.below hlt hb).setPool (hlt.mono hb.size) hp (hc.mono (fun r hr=>by simp[Zfi,hr])),(Chg.of_below hb _ _).trans (hc.mono Zha),gA⟩
 have gk:Hid (∀ (W:World),Zap o W sb { d with pool:=d.pool.setNd (enode f) ((d.pool.nd (enode f)).ref (r+1)) } s->Zal o W->Chg Zar o o w W ->
  Calls prog 203 #[.pointer (some ⟨sb,0,none⟩),.int .i64 f] W fun e w'=>e=.returned (.tuple #[])/\Zfa o w sb d s f 1 (.returned (.int .i64 0)) w'):=fun W hs gA h0=>by
  have gz:=Zhb (d:=d) (k:=r+1) gq.2.1 g3.1
  refine(Zgh o sb s rk (rk (enode f)+1) W _ (Za0 d) f ⟨hs,gA,by rw[gz];exact ha,by rw[gz];exact gC,Zlf gq.2.1 g3.1 hl,fun y q hq=>(by
   rw[gz] at hq;have h1:=htop y q hq;have h2:toE f y<=1:=by unfold toE;split<;>omega
   omega),.inr (Nat.lt_succ_self _)⟩).mono ?_
  rintro e w' ⟨cs,dd,rfl,gU,gX,gZ,_,_,gM⟩;refine⟨rfl,_,rfl,gU,gA.mono gM.size,⟨rfl,rfl,rfl,gz,rfl,rfl,rfl,by simp[Zag.cd,Zao.setNd],gZ,fun i hi=>?_,gX.congr (fun y b' hb'=>?_)⟩,h0.trans (gM.mono Zjd)⟩
  .
   show Za0 { d with pool:=d.pool.setNd (enode f) ((d.pool.nd (enode f)).ref (r+1)) } i=_
   rw[Zho gq.2.1 g3.1];dsimp only;unfold toE
   by_cases e:i=enode f
   . have e':f/2=i:=e.symm;rw[if_pos e,if_pos e',e,Zcq g3.1,<- hr];omega
   .
    have e':¬ f/2=i:=fun h'=>e h'.symm
    rw[if_neg e,if_neg e'];omega
  .
   show Za0 { d with pool:=d.pool.setNd (enode f) ((d.pool.nd (enode f)).ref (r+1)) } y=_
   rw[Zho gq.2.1 g3.1];dsimp only;unfold addE toE
   by_cases e:y=enode f
   . have e':f/2=y:=e.symm;rw[if_pos e,if_pos e',e,Zcq g3.1,<- hr];omega
   .
    have e':¬ f/2=y:=fun h'=>e h'.symm
    rw[if_neg e,if_neg e'];omega
 have gR:d.pool.has (enode f)=d.pool.nd (enode f):=g3.2.1;rw[gR] at g7;have gp:Hid (Za6 ((d.pool.nd (enode f)).ref (r+1))=.agg #[.int .i64 (d.pool.nd (enode f)).id,.int .i64 (d.pool.nd (enode f)).v,.int .i64 (d.pool.nd (enode f)).lo,.int .i64 (d.pool.nd (enode f)).hi,.int .i64 ((r:Int)+1)]):=by
  show _=_
  unfold Za6 RN.ref;dsimp only;rw[show ((r+1:Nat):Int)=(r:Int)+1 from by omega]
 rw[g3.1] at g7;rw[<- hr] at gV;obtain⟨N,hN⟩:∃ N,N=d.pool.nd (enode f):=⟨_,rfl⟩;have gQ:N.refs=r:=by rw[hN,hr]
 rw[<- hN] at g7 gp go gk;obtain⟨B,hB⟩:∃ B,B=true:=⟨_,rfl⟩;rw[<- hB] at g7;obtain⟨k,hk⟩:∃ k,k=enode f:=⟨_,rfl⟩;rw[<- hk] at g7 HN;have gn:=Hd hB;have gm:=Hd gQ;have h3:=Hd hk;clear h hlt hl ha hx htop hf g3 gD gq hid hr gR hN hB hk gC c0 c1 c2 c3 c4 f0 lsb gQ
 go_enter func158,ntmps158
 go_wp2_with fail;refine(gS.out _ (Below.refl _ _)).mono ?_;rintro x w1 ⟨rfl,gP⟩;have g9:=Hd gP;clear gP gS;go_upto_region 5 with fail;refine Zbs (fun W:World=>Below w.heap.size w W) 13 (by kernel_rfl) (Zak g9.out 1) ?_;refine Zac 0 rfl rfl (by kernel_rfl) ?_;apply Exists.intro;refine⟨fun w' hw=>?_,?_⟩
 . have ga:=gj.out w' hw;go_simp;rfl
 simp only[Zae];refine Zac 1 rfl rfl (by kernel_rfl) ?_;apply Exists.intro;refine⟨fun w' hw=>?_,?_⟩
 . have ga:=gj.out w' hw;go_simp;rfl
 simp only[Zae];refine Zac 2 rfl rfl (by kernel_rfl) ?_;apply Exists.intro;refine⟨fun w' hw=>?_,?_⟩
 . have ga:=gj.out w' hw;go_simp;rfl
 simp only[Zae];refine Zac 3 rfl rfl (by kernel_rfl) ?_;apply Exists.intro;refine⟨fun w' hw=>?_,?_⟩
 . have ga:=gj.out w' hw;go_simp;rfl
 simp only[Zae];refine Zac 4 rfl rfl (by kernel_rfl) ?_;apply Exists.intro;refine⟨fun w' hw=>?_,?_⟩
 . have ga:=gj.out w' hw;go_simp;rfl
 simp only[Zae];refine Zan [5,10] (by kernel_rfl) (fun i hi hS o ho=>?_);simp only[Zbf] at hi;rcases hi with rfl|rfl
 .
  skip
  simp only[Za2] at ho;subst ho;refine⟨rfl,?_⟩;refine Zas (v:=(.int .i64 k)) (R:=fun w'=>w1.drew=w') (by go_simp) (HN.out _) ?_;rintro w' rfl;refine⟨(Zak g9.out 1),?_⟩;simp only[Zae];refine Zan [6,10] (by kernel_rfl) (fun i hi hS o ho=>?_);simp only[Zbf] at hi;rcases hi with rfl|rfl
  .
   skip
   simp only[Za2] at ho;subst ho;refine⟨rfl,?_⟩;refine Zas (v:=(.tuple #[Za6 N,.bool B])) (R:=fun w'=>Below (w1.drew).heap.size (w1.drew) w') (by go_simp) (g7.out _ (Zak g9.out 1)) ?_;intro v2 gT;have gB:=(Zak g9.out 1).trans (gT.mono (Zak g9.out 1).size);refine⟨gB,?_⟩;simp only[Zae];unfold Za6;refine Zac 7 rfl rfl (by kernel_rfl) ?_;apply Exists.intro;refine⟨fun w' hw=>?_,?_⟩
   . clear hw;go_simp;rfl
   simp only[Zae];refine Zac 8 rfl rfl (by kernel_rfl) ?_;apply Exists.intro;refine⟨fun w' hw=>?_,?_⟩
   . clear hw;go_simp;rfl
   simp only[Zae];refine Zac 9 rfl rfl (by kernel_rfl) ?_;apply Exists.intro;refine⟨fun w' hw=>?_,?_⟩
   . clear hw;go_simp;rfl
   simp only[Zae];refine Zan [10] (by kernel_rfl) (fun i hi hS o ho=>?_);simp only[Zbf] at hi;subst hi;simp only[Za2] at ho;subst ho;refine⟨rfl,?_⟩;have gE:=gB.trans ((Zad (v2) (.cells #[.int .i64 0,.int .i64 0,.int .i64 0,.int .i64 0,.int .i64 0] 254)).mono gB.size);have gy:=heap_alloc_new (v2) (.cells #[.int .i64 0,.int .i64 0,.int .i64 0,.int .i64 0,.int .i64 0] 254);have g4:w.heap.size<=(v2).heap.size:=gB.size;refine Zay (v:=.pointer (some ⟨(v2).heap.size,0,none⟩)) (w':=(v2).alloc (.cells #[.int .i64 0,.int .i64 0,.int .i64 0,.int .i64 0,.int .i64 0] 254)) (by go_simp) ⟨gE,?_⟩;simp only[Zae];obtain⟨bx,gg⟩:∃ bx,bx=(v2).heap.size:=⟨_,rfl⟩;rw[<- gg] at gy g4 ⊢;obtain⟨u3,gL⟩:∃ u,u=(v2).alloc (.cells #[.int .i64 0,.int .i64 0,.int .i64 0,.int .i64 0,.int .i64 0] 254):=⟨_,rfl⟩;rw[<- gL] at gy gE ⊢;clear gL gg;refine Zan [11] (by kernel_rfl) (fun i hi hS o ho=>?_);simp only[Zbf] at hi;subst hi;simp only[Za2] at ho;subst ho;refine⟨rfl,?_⟩;obtain⟨e0,e1,e2,e3,e4,fz⟩:=cells5 gy;refine Zbd (w':=set5 u3 bx 0 N) rfl (Zav (k:=0) fz e0 e1 e2 e3 e4 _ _ _ _ _) ?_;have g5:Below w.heap.size w (set5 u3 bx 0 N):=Zbc gE g4 N;have gc:=Zbr gy N;refine⟨g5,?_⟩;simp only[Zae];clear e0 e1 e2 e3 e4 fz;refine Zac 12 rfl rfl (by kernel_rfl) ?_;apply Exists.intro;refine⟨fun w' hw=>?_,?_⟩
   . clear hw;go_simp;rfl
   simp only[Zae];refine Zbm (by kernel_rfl) ?_;obtain rfl:B=true:=gn.out;have g0:=gc;rw[gm.out] at g0;have g6:=Hd g0;have g8:=Hd g5;obtain⟨y0,y1,y2,y3,y4,yz⟩:=cells5 g0;obtain⟨W3,gi⟩:∃ W,W=set5 u3 bx 0 N:=⟨_,rfl⟩;rw[<- gi] at y0 y1 y2 y3 y4 yz g6 g8 ⊢;clear gi gc g0 g5 gm g7 HN gn;go_upto_region 8 with fail;have g1:=Zah (k:=4) g6.out (.int .i64 ((r:Int)+1));have g2:Below w.heap.size w (W3.setCell ⟨bx,4,none⟩ (.int .i64 ((r:Int)+1))):=g8.out.setCell (p:=⟨bx,4,none⟩) g4 _;obtain⟨W4,gh⟩:∃ W,W=W3.setCell ⟨bx,4,none⟩ (.int .i64 ((r:Int)+1)):=⟨_,rfl⟩;rw[<- gh] at g1 g2 ⊢;clear gh g6 g8 y0 y1 y2 y3 y4 yz;simp at g1;obtain⟨z0,z1,z2,z3,z4,zz⟩:=cells5 g1;have ga:=gj.out _ g2;refine Zam (fun w'=>w'=W4.drew) true 5 [(0,false),(1,false),(2,false),(3,false),(4,false),(5,true)] (by kernel_rfl) (by kernel_rfl) rfl ?_;simp only[planned,Zcc]
   iterate 5
    refine Zaj rfl ?_;apply Exists.intro;refine⟨fun w' hw=>?_,?_⟩
    . subst hw;go_simp;rfl
    simp only[Zae]
   refine Zdg rfl (fun K hK=>?_);unfold Oper.wp;go_simp;rw[<- gp.out];refine(go.out _ (Zak g2 1)).mono ?_;rintro x w5 ⟨rfl,gd,gf,ge⟩;refine hK _ _ (Zbz ?_);have gt:=Hd gd;have gv:=Hd gf;have gu:=Hd ge;clear gd gf ge g1 g2 z0 z1 z2 z3 z4 zz ga;go_wp2_with fail;refine(gk.out _ gt.out gu.out gv.out).mono ?_;rintro x w6 ⟨rfl,hp⟩;have HP:=Hd hp;clear hp;go_wp2_with fail;go_ret;exact HP.out
  .
   skip
   simp only[Za2] at ho;subst ho;refine⟨rfl,?_⟩;have gr:=(Zak g9.out 1).trans ((Zad (w1.drew) (.cells #[.int .i64 0,.int .i64 0,.int .i64 0,.int .i64 0,.int .i64 0] 254)).mono (Zak g9.out 1).size);have gx:=heap_alloc_new (w1.drew) (.cells #[.int .i64 0,.int .i64 0,.int .i64 0,.int .i64 0,.int .i64 0] 254);have g4:w.heap.size<=(w1.drew).heap.size:=(Zak g9.out 1).size;refine Zay (v:=.pointer (some ⟨(w1.drew).heap.size,0,none⟩)) (w':=(w1.drew).alloc (.cells #[.int .i64 0,.int .i64 0,.int .i64 0,.int .i64 0,.int .i64 0] 254)) (by go_simp) ⟨gr,?_⟩;simp only[Zae];obtain⟨bx,gg⟩:∃ bx,bx=(w1.drew).heap.size:=⟨_,rfl⟩;rw[<- gg] at gx g4 ⊢;obtain⟨u4,gK⟩:∃ u,u=(w1.drew).alloc (.cells #[.int .i64 0,.int .i64 0,.int .i64 0,.int .i64 0,.int .i64 0] 254):=⟨_,rfl⟩;rw[<- gK] at gx gr ⊢;clear gK gg;refine Zan [6] (by kernel_rfl) (fun i hi hS o ho=>?_);simp only[Zbf] at hi;subst hi;simp only[Za2] at ho;subst ho;refine⟨rfl,?_⟩;refine Zas (v:=(.tuple #[Za6 N,.bool B])) (R:=fun w'=>Below (u4).heap.size (u4) w') (by go_simp) (g7.out _ gr) ?_;intro v5 gI;have gO:=gr.trans (gI.mono gr.size);refine⟨gO,?_⟩;simp only[Zae];unfold Za6;have gG:=(gI.block _ (Array.getElem?_eq_some_iff.1 gx).1).trans gx;refine Zac 7 rfl rfl (by kernel_rfl) ?_;apply Exists.intro;refine⟨fun w' hw=>?_,?_⟩
   . clear hw;go_simp;rfl
   simp only[Zae];refine Zac 8 rfl rfl (by kernel_rfl) ?_;apply Exists.intro;refine⟨fun w' hw=>?_,?_⟩
   . clear hw;go_simp;rfl
   simp only[Zae];refine Zac 9 rfl rfl (by kernel_rfl) ?_;apply Exists.intro;refine⟨fun w' hw=>?_,?_⟩
   . clear hw;go_simp;rfl
   simp only[Zae];refine Zan [11] (by kernel_rfl) (fun i hi hS o ho=>?_);simp only[Zbf] at hi;subst hi;simp only[Za2] at ho;subst ho;refine⟨rfl,?_⟩;obtain⟨e0,e1,e2,e3,e4,fz⟩:=cells5 gG;refine Zbd (w':=set5 v5 bx 0 N) rfl (Zav (k:=0) fz e0 e1 e2 e3 e4 _ _ _ _ _) ?_;have g5:Below w.heap.size w (set5 v5 bx 0 N):=Zbc gO g4 N;have gc:=Zbr gG N;refine⟨g5,?_⟩;simp only[Zae];clear e0 e1 e2 e3 e4 fz;refine Zac 12 rfl rfl (by kernel_rfl) ?_;apply Exists.intro;refine⟨fun w' hw=>?_,?_⟩
   . clear hw;go_simp;rfl
   simp only[Zae];refine Zbm (by kernel_rfl) ?_;obtain rfl:B=true:=gn.out;have g0:=gc;rw[gm.out] at g0;have g6:=Hd g0;have g8:=Hd g5;obtain⟨y0,y1,y2,y3,y4,yz⟩:=cells5 g0;obtain⟨W3,gi⟩:∃ W,W=set5 v5 bx 0 N:=⟨_,rfl⟩;rw[<- gi] at y0 y1 y2 y3 y4 yz g6 g8 ⊢;clear gi gc g0 g5 gm g7 HN gn;go_upto_region 8 with fail;have g1:=Zah (k:=4) g6.out (.int .i64 ((r:Int)+1));have g2:Below w.heap.size w (W3.setCell ⟨bx,4,none⟩ (.int .i64 ((r:Int)+1))):=g8.out.setCell (p:=⟨bx,4,none⟩) g4 _;obtain⟨W4,gh⟩:∃ W,W=W3.setCell ⟨bx,4,none⟩ (.int .i64 ((r:Int)+1)):=⟨_,rfl⟩;rw[<- gh] at g1 g2 ⊢;clear gh g6 g8 y0 y1 y2 y3 y4 yz;simp at g1;obtain⟨z0,z1,z2,z3,z4,zz⟩:=cells5 g1;have ga:=gj.out _ g2;refine Zam (fun w'=>w'=W4.drew) true 5 [(0,false),(1,false),(2,false),(3,false),(4,false),(5,true)] (by kernel_rfl) (by kernel_rfl) rfl ?_;simp only[planned,Zcc]
   iterate 5
    refine Zaj rfl ?_;apply Exists.intro;refine⟨fun w' hw=>?_,?_⟩
    . subst hw;go_simp;rfl
    simp only[Zae]
   refine Zdg rfl (fun K hK=>?_);unfold Oper.wp;go_simp;rw[<- gp.out];refine(go.out _ (Zak g2 1)).mono ?_;rintro x w5 ⟨rfl,gd,gf,ge⟩;refine hK _ _ (Zbz ?_);have gt:=Hd gd;have gv:=Hd gf;have gu:=Hd ge;clear gd gf ge g1 g2 z0 z1 z2 z3 z4 zz ga;go_wp2_with fail;refine(gk.out _ gt.out gu.out gv.out).mono ?_;rintro x w6 ⟨rfl,hp⟩;have HP:=Hd hp;clear hp;go_wp2_with fail;go_ret;exact HP.out
 .
  skip
  simp only[Za2] at ho;subst ho;refine⟨rfl,?_⟩;have gl:=(Zak g9.out 1).trans ((Zad (w1.drew) (.cells #[.int .i64 0,.int .i64 0,.int .i64 0,.int .i64 0,.int .i64 0] 254)).mono (Zak g9.out 1).size);have gw:=heap_alloc_new (w1.drew) (.cells #[.int .i64 0,.int .i64 0,.int .i64 0,.int .i64 0,.int .i64 0] 254);have g4:w.heap.size<=(w1.drew).heap.size:=(Zak g9.out 1).size;refine Zay (v:=.pointer (some ⟨(w1.drew).heap.size,0,none⟩)) (w':=(w1.drew).alloc (.cells #[.int .i64 0,.int .i64 0,.int .i64 0,.int .i64 0,.int .i64 0] 254)) (by go_simp) ⟨gl,?_⟩;simp only[Zae];obtain⟨bx,gg⟩:∃ bx,bx=(w1.drew).heap.size:=⟨_,rfl⟩;rw[<- gg] at gw g4 ⊢;obtain⟨u6,gJ⟩:∃ u,u=(w1.drew).alloc (.cells #[.int .i64 0,.int .i64 0,.int .i64 0,.int .i64 0,.int .i64 0] 254):=⟨_,rfl⟩;rw[<- gJ] at gw gl ⊢;clear gJ gg;refine Zan [5] (by kernel_rfl) (fun i hi hS o ho=>?_);simp only[Zbf] at hi;subst hi;simp only[Za2] at ho;subst ho;refine⟨rfl,?_⟩;refine Zas (v:=(.int .i64 k)) (R:=fun w'=>u6=w') (by go_simp) (HN.out _) ?_;rintro w' rfl;refine⟨gl,?_⟩;simp only[Zae];refine Zan [6] (by kernel_rfl) (fun i hi hS o ho=>?_);simp only[Zbf] at hi;subst hi;simp only[Za2] at ho;subst ho;refine⟨rfl,?_⟩;refine Zas (v:=(.tuple #[Za6 N,.bool B])) (R:=fun w'=>Below (u6).heap.size (u6) w') (by go_simp) (g7.out _ gl) ?_;intro v8 gH;have gN:=gl.trans (gH.mono gl.size);refine⟨gN,?_⟩;simp only[Zae];unfold Za6;have gF:=(gH.block _ (Array.getElem?_eq_some_iff.1 gw).1).trans gw;refine Zac 7 rfl rfl (by kernel_rfl) ?_;apply Exists.intro;refine⟨fun w' hw=>?_,?_⟩
  . clear hw;go_simp;rfl
  simp only[Zae];refine Zac 8 rfl rfl (by kernel_rfl) ?_;apply Exists.intro;refine⟨fun w' hw=>?_,?_⟩
  . clear hw;go_simp;rfl
  simp only[Zae];refine Zac 9 rfl rfl (by kernel_rfl) ?_;apply Exists.intro;refine⟨fun w' hw=>?_,?_⟩
  . clear hw;go_simp;rfl
  simp only[Zae];refine Zan [11] (by kernel_rfl) (fun i hi hS o ho=>?_);simp only[Zbf] at hi;subst hi;simp only[Za2] at ho;subst ho;refine⟨rfl,?_⟩;obtain⟨e0,e1,e2,e3,e4,fz⟩:=cells5 gF;refine Zbd (w':=set5 v8 bx 0 N) rfl (Zav (k:=0) fz e0 e1 e2 e3 e4 _ _ _ _ _) ?_;have g5:Below w.heap.size w (set5 v8 bx 0 N):=Zbc gN g4 N;have gc:=Zbr gF N;refine⟨g5,?_⟩;simp only[Zae];clear e0 e1 e2 e3 e4 fz;refine Zac 12 rfl rfl (by kernel_rfl) ?_;apply Exists.intro;refine⟨fun w' hw=>?_,?_⟩
  . clear hw;go_simp;rfl
  simp only[Zae];refine Zbm (by kernel_rfl) ?_;obtain rfl:B=true:=gn.out;have g0:=gc;rw[gm.out] at g0;have g6:=Hd g0;have g8:=Hd g5;obtain⟨y0,y1,y2,y3,y4,yz⟩:=cells5 g0;obtain⟨W3,gi⟩:∃ W,W=set5 v8 bx 0 N:=⟨_,rfl⟩;rw[<- gi] at y0 y1 y2 y3 y4 yz g6 g8 ⊢;clear gi gc g0 g5 gm g7 HN gn;go_upto_region 8 with fail;have g1:=Zah (k:=4) g6.out (.int .i64 ((r:Int)+1));have g2:Below w.heap.size w (W3.setCell ⟨bx,4,none⟩ (.int .i64 ((r:Int)+1))):=g8.out.setCell (p:=⟨bx,4,none⟩) g4 _;obtain⟨W4,gh⟩:∃ W,W=W3.setCell ⟨bx,4,none⟩ (.int .i64 ((r:Int)+1)):=⟨_,rfl⟩;rw[<- gh] at g1 g2 ⊢;clear gh g6 g8 y0 y1 y2 y3 y4 yz;simp at g1;obtain⟨z0,z1,z2,z3,z4,zz⟩:=cells5 g1;have ga:=gj.out _ g2;refine Zam (fun w'=>w'=W4.drew) true 5 [(0,false),(1,false),(2,false),(3,false),(4,false),(5,true)] (by kernel_rfl) (by kernel_rfl) rfl ?_;simp only[planned,Zcc]
  iterate 5
   refine Zaj rfl ?_;apply Exists.intro;refine⟨fun w' hw=>?_,?_⟩
   . subst hw;go_simp;rfl
   simp only[Zae]
  refine Zdg rfl (fun K hK=>?_);unfold Oper.wp;go_simp;rw[<- gp.out];refine(go.out _ (Zak g2 1)).mono ?_;rintro x w5 ⟨rfl,gd,gf,ge⟩;refine hK _ _ (Zbz ?_);have gt:=Hd gd;have gv:=Hd gf;have gu:=Hd ge;clear gd gf ge g1 g2 z0 z1 z2 z3 z4 zz ga;go_wp2_with fail;refine(gk.out _ gt.out gu.out gv.out).mono ?_;rintro x w6 ⟨rfl,hp⟩;have HP:=Hd hp;clear hp;go_wp2_with fail;go_ret;exact HP.out
open Go.RowKit
theorem Zl4 {o:Own}{w:World}{sb:Nat}{d:Zag}{s:Za7}(h:Zap o w sb d s)(hlt:Zal o w)(hl:Zci d (Za0 d))(f:Nat)(hf:f<eMax)(hx:enode f=0) :
 Calls prog 143 #[.pointer (some ⟨sb,0,none⟩),.int .i64 f] w (Zfa o w sb d s f (-1)):=by
 obtain⟨c0,c1,c2,c3,c4,f0⟩:=cells5 h.blk;have lsb:sb<w.heap.size:=Zaa c0;have g9:Hid (∀ W:World,Below w.heap.size w W->Zfa o w sb d s f (-1) (.returned (.int .i64 0)) W):=fun W hb =>
  ⟨d,rfl,h.below hlt hb,hlt.mono hb.size,⟨rfl,rfl,rfl,rfl,rfl,rfl,rfl,rfl,rfl,fun i hi=>by
   have e:f/2=0:=hx;simp[toE,e,Ne.symm hi],hl⟩,Chg.of_below hb _ _⟩
 have gk:(decide (enode f=0)||d.pool.tk (enode f))=true:=by rw[hx];rfl
 have gi:Hid (∀ W:World,Below w.heap.size w W->Calls prog 188 #[.pointer (some ⟨sb,0,none⟩),.int .i64 f] W fun x w'=>x=.returned (.bool true)/\Below W.heap.size W w'):=fun W hb=>by
  have h1:=Zbl (h.below hlt hb) (hlt.mono hb.size) f hf;rw[gk] at h1;exact h1
 have gu:d.pool.tk 0=false:=h.pool.zero;have g7:Hid (∀ W:World,Below w.heap.size w W->Calls prog 194 #[.pointer (some ⟨s.pb,0,none⟩),.int .i64 (enode f:Nat)] W fun x w'=>x=.returned (.tuple #[Za6 (d.pool.has (enode f)),.bool (d.pool.tk (enode f))])/\Below W.heap.size W w') :=
  Hd (fun W hb=>Zc8 o s.pb d.pool (enode f) W (h.pool.below hb hlt) (hlt.mono hb.size))
 have g5:Hid (∀ W:World,Below w.heap.size w W->W.cell? ⟨sb,1,none⟩=some (.pointer (some ⟨s.pb,0,none⟩))):=Hd (fun W hb=>(hb.cell (p:=⟨sb,1,none⟩) lsb).trans c1);have HN:=Hd (fun W=>Zcv f W hf);have gj:d.pool.tk (enode f)=false:=by rw[hx];exact gu
 obtain⟨N,hN⟩:∃ N,N=d.pool.has (enode f):=⟨_,rfl⟩;obtain⟨B,hB⟩:∃ B,B=d.pool.tk (enode f):=⟨_,rfl⟩;obtain⟨k,hk⟩:∃ k,k=enode f:=⟨_,rfl⟩;rw[<- hN,<- hB,<- hk] at g7;rw[<- hk] at HN;have HB:=Hd (hB.trans gj);clear h hlt hl hf hx gk c0 c1 c2 c3 c4 f0 lsb gu gj hN hk hB
 go_enter func143,ntmps143
 go_wp2_with fail;refine(gi.out _ (Below.refl _ _)).mono ?_;rintro x w1 ⟨rfl,gx⟩;have g0:=Hd gx;clear gx;go_upto_region 5 with fail;refine Zbs (fun W:World=>Below w.heap.size w W) 13 (by kernel_rfl) (Zak g0.out 1) ?_;refine Zac 0 rfl rfl (by kernel_rfl) ?_;apply Exists.intro;refine⟨fun w' hw=>?_,?_⟩
 . have gg:=g5.out w' hw;go_simp;rfl
 simp only[Zae];refine Zac 1 rfl rfl (by kernel_rfl) ?_;apply Exists.intro;refine⟨fun w' hw=>?_,?_⟩
 . have gg:=g5.out w' hw;go_simp;rfl
 simp only[Zae];refine Zac 2 rfl rfl (by kernel_rfl) ?_;apply Exists.intro;refine⟨fun w' hw=>?_,?_⟩
 . have gg:=g5.out w' hw;go_simp;rfl
 simp only[Zae];refine Zac 3 rfl rfl (by kernel_rfl) ?_;apply Exists.intro;refine⟨fun w' hw=>?_,?_⟩
 . have gg:=g5.out w' hw;go_simp;rfl
 simp only[Zae];refine Zac 4 rfl rfl (by kernel_rfl) ?_;apply Exists.intro;refine⟨fun w' hw=>?_,?_⟩
 . have gg:=g5.out w' hw;go_simp;rfl
 simp only[Zae];refine Zan [5,10] (by kernel_rfl) (fun i hi hS o ho=>?_);simp only[Zbf] at hi;rcases hi with rfl|rfl
 .
  skip
  simp only[Za2] at ho;subst ho;refine⟨rfl,?_⟩;refine Zas (v:=(.int .i64 k)) (R:=fun w'=>w1.drew=w') (by go_simp) (HN.out _) ?_;rintro w' rfl;refine⟨(Zak g0.out 1),?_⟩;simp only[Zae];refine Zan [6,10] (by kernel_rfl) (fun i hi hS o ho=>?_);simp only[Zbf] at hi;rcases hi with rfl|rfl
  .
   skip
   simp only[Za2] at ho;subst ho;refine⟨rfl,?_⟩;refine Zas (v:=(.tuple #[Za6 N,.bool B])) (R:=fun w'=>Below (w1.drew).heap.size (w1.drew) w') (by go_simp) (g7.out _ (Zak g0.out 1)) ?_;intro v2 gy;have gh:=(Zak g0.out 1).trans (gy.mono (Zak g0.out 1).size);refine⟨gh,?_⟩;simp only[Zae];unfold Za6;refine Zac 7 rfl rfl (by kernel_rfl) ?_;apply Exists.intro;refine⟨fun w' hw=>?_,?_⟩
   . clear hw;go_simp;rfl
   simp only[Zae];refine Zac 8 rfl rfl (by kernel_rfl) ?_;apply Exists.intro;refine⟨fun w' hw=>?_,?_⟩
   . clear hw;go_simp;rfl
   simp only[Zae];refine Zac 9 rfl rfl (by kernel_rfl) ?_;apply Exists.intro;refine⟨fun w' hw=>?_,?_⟩
   . clear hw;go_simp;rfl
   simp only[Zae];refine Zan [10] (by kernel_rfl) (fun i hi hS o ho=>?_);simp only[Zbf] at hi;subst hi;simp only[Za2] at ho;subst ho;refine⟨rfl,?_⟩;have gl:=gh.trans ((Zad (v2) (.cells #[.int .i64 0,.int .i64 0,.int .i64 0,.int .i64 0,.int .i64 0] 254)).mono gh.size);have gf:=heap_alloc_new (v2) (.cells #[.int .i64 0,.int .i64 0,.int .i64 0,.int .i64 0,.int .i64 0] 254);have g2:w.heap.size<=(v2).heap.size:=gh.size;refine Zay (v:=.pointer (some ⟨(v2).heap.size,0,none⟩)) (w':=(v2).alloc (.cells #[.int .i64 0,.int .i64 0,.int .i64 0,.int .i64 0,.int .i64 0] 254)) (by go_simp) ⟨gl,?_⟩;simp only[Zae];obtain⟨bx,g3⟩:∃ bx,bx=(v2).heap.size:=⟨_,rfl⟩;rw[<- g3] at gf g2 ⊢;obtain⟨u3,gt⟩:∃ u,u=(v2).alloc (.cells #[.int .i64 0,.int .i64 0,.int .i64 0,.int .i64 0,.int .i64 0] 254):=⟨_,rfl⟩;rw[<- gt] at gf gl ⊢;clear gt g3;refine Zan [11] (by kernel_rfl) (fun i hi hS o ho=>?_);simp only[Zbf] at hi;subst hi;simp only[Za2] at ho;subst ho;refine⟨rfl,?_⟩;obtain⟨e0,e1,e2,e3,e4,fz⟩:=cells5 gf;refine Zbd (w':=set5 u3 bx 0 N) rfl (Zav (k:=0) fz e0 e1 e2 e3 e4 _ _ _ _ _) ?_;have g1:Below w.heap.size w (set5 u3 bx 0 N):=Zbc gl g2 N;have ga:=Zbr gf N;refine⟨g1,?_⟩;simp only[Zae];clear e0 e1 e2 e3 e4 fz;refine Zac 12 rfl rfl (by kernel_rfl) ?_;apply Exists.intro;refine⟨fun w' hw=>?_,?_⟩
   . clear hw;go_simp;rfl
   simp only[Zae];refine Zbm (by kernel_rfl) ?_;obtain rfl:B=false:=HB.out;have g6:=Hd g1;obtain⟨W3,g4⟩:∃ W,W=set5 u3 bx 0 N:=⟨_,rfl⟩;rw[<- g4] at g6 ⊢;clear g4 g1 ga g7 HN gi g5 g0 HB;go_wp2_with fail;go_ret;exact g9.out _ g6.out
  .
   skip
   simp only[Za2] at ho;subst ho;refine⟨rfl,?_⟩;have gc:=(Zak g0.out 1).trans ((Zad (w1.drew) (.cells #[.int .i64 0,.int .i64 0,.int .i64 0,.int .i64 0,.int .i64 0] 254)).mono (Zak g0.out 1).size);have ge:=heap_alloc_new (w1.drew) (.cells #[.int .i64 0,.int .i64 0,.int .i64 0,.int .i64 0,.int .i64 0] 254);have g2:w.heap.size<=(w1.drew).heap.size:=(Zak g0.out 1).size;refine Zay (v:=.pointer (some ⟨(w1.drew).heap.size,0,none⟩)) (w':=(w1.drew).alloc (.cells #[.int .i64 0,.int .i64 0,.int .i64 0,.int .i64 0,.int .i64 0] 254)) (by go_simp) ⟨gc,?_⟩;simp only[Zae];obtain⟨bx,g3⟩:∃ bx,bx=(w1.drew).heap.size:=⟨_,rfl⟩;rw[<- g3] at ge g2 ⊢;obtain⟨u4,gr⟩:∃ u,u=(w1.drew).alloc (.cells #[.int .i64 0,.int .i64 0,.int .i64 0,.int .i64 0,.int .i64 0] 254):=⟨_,rfl⟩;rw[<- gr] at ge gc ⊢;clear gr g3;refine Zan [6] (by kernel_rfl) (fun i hi hS o ho=>?_);simp only[Zbf] at hi;subst hi;simp only[Za2] at ho;subst ho;refine⟨rfl,?_⟩;refine Zas (v:=(.tuple #[Za6 N,.bool B])) (R:=fun w'=>Below (u4).heap.size (u4) w') (by go_simp) (g7.out _ gc) ?_;intro v5 gp;have gw:=gc.trans (gp.mono gc.size);refine⟨gw,?_⟩;simp only[Zae];unfold Za6;have gn:=(gp.block _ (Array.getElem?_eq_some_iff.1 ge).1).trans ge;refine Zac 7 rfl rfl (by kernel_rfl) ?_;apply Exists.intro;refine⟨fun w' hw=>?_,?_⟩
   . clear hw;go_simp;rfl
   simp only[Zae];refine Zac 8 rfl rfl (by kernel_rfl) ?_;apply Exists.intro;refine⟨fun w' hw=>?_,?_⟩
   . clear hw;go_simp;rfl
   simp only[Zae];refine Zac 9 rfl rfl (by kernel_rfl) ?_;apply Exists.intro;refine⟨fun w' hw=>?_,?_⟩
   . clear hw;go_simp;rfl
   simp only[Zae];refine Zan [11] (by kernel_rfl) (fun i hi hS o ho=>?_);simp only[Zbf] at hi;subst hi;simp only[Za2] at ho;subst ho;refine⟨rfl,?_⟩;obtain⟨e0,e1,e2,e3,e4,fz⟩:=cells5 gn;refine Zbd (w':=set5 v5 bx 0 N) rfl (Zav (k:=0) fz e0 e1 e2 e3 e4 _ _ _ _ _) ?_;have g1:Below w.heap.size w (set5 v5 bx 0 N):=Zbc gw g2 N;have ga:=Zbr gn N;refine⟨g1,?_⟩;simp only[Zae];clear e0 e1 e2 e3 e4 fz;refine Zac 12 rfl rfl (by kernel_rfl) ?_;apply Exists.intro;refine⟨fun w' hw=>?_,?_⟩
   . clear hw;go_simp;rfl
   simp only[Zae];refine Zbm (by kernel_rfl) ?_;obtain rfl:B=false:=HB.out;have g6:=Hd g1;obtain⟨W3,g4⟩:∃ W,W=set5 v5 bx 0 N:=⟨_,rfl⟩;rw[<- g4] at g6 ⊢;clear g4 g1 ga g7 HN gi g5 g0 HB;go_wp2_with fail;go_ret;exact g9.out _ g6.out
 .
  skip
  simp only[Za2] at ho;subst ho;refine⟨rfl,?_⟩;have g8:=(Zak g0.out 1).trans ((Zad (w1.drew) (.cells #[.int .i64 0,.int .i64 0,.int .i64 0,.int .i64 0,.int .i64 0] 254)).mono (Zak g0.out 1).size);have gd:=heap_alloc_new (w1.drew) (.cells #[.int .i64 0,.int .i64 0,.int .i64 0,.int .i64 0,.int .i64 0] 254);have g2:w.heap.size<=(w1.drew).heap.size:=(Zak g0.out 1).size;refine Zay (v:=.pointer (some ⟨(w1.drew).heap.size,0,none⟩)) (w':=(w1.drew).alloc (.cells #[.int .i64 0,.int .i64 0,.int .i64 0,.int .i64 0,.int .i64 0] 254)) (by go_simp) ⟨g8,?_⟩;simp only[Zae];obtain⟨bx,g3⟩:∃ bx,bx=(w1.drew).heap.size:=⟨_,rfl⟩;rw[<- g3] at gd g2 ⊢;obtain⟨u6,gq⟩:∃ u,u=(w1.drew).alloc (.cells #[.int .i64 0,.int .i64 0,.int .i64 0,.int .i64 0,.int .i64 0] 254):=⟨_,rfl⟩;rw[<- gq] at gd g8 ⊢;clear gq g3;refine Zan [5] (by kernel_rfl) (fun i hi hS o ho=>?_);simp only[Zbf] at hi;subst hi;simp only[Za2] at ho;subst ho;refine⟨rfl,?_⟩;refine Zas (v:=(.int .i64 k)) (R:=fun w'=>u6=w') (by go_simp) (HN.out _) ?_;rintro w' rfl;refine⟨g8,?_⟩;simp only[Zae];refine Zan [6] (by kernel_rfl) (fun i hi hS o ho=>?_);simp only[Zbf] at hi;subst hi;simp only[Za2] at ho;subst ho;refine⟨rfl,?_⟩;refine Zas (v:=(.tuple #[Za6 N,.bool B])) (R:=fun w'=>Below (u6).heap.size (u6) w') (by go_simp) (g7.out _ g8) ?_;intro v8 go;have gv:=g8.trans (go.mono g8.size);refine⟨gv,?_⟩;simp only[Zae];unfold Za6;have gm:=(go.block _ (Array.getElem?_eq_some_iff.1 gd).1).trans gd;refine Zac 7 rfl rfl (by kernel_rfl) ?_;apply Exists.intro;refine⟨fun w' hw=>?_,?_⟩
  . clear hw;go_simp;rfl
  simp only[Zae];refine Zac 8 rfl rfl (by kernel_rfl) ?_;apply Exists.intro;refine⟨fun w' hw=>?_,?_⟩
  . clear hw;go_simp;rfl
  simp only[Zae];refine Zac 9 rfl rfl (by kernel_rfl) ?_;apply Exists.intro;refine⟨fun w' hw=>?_,?_⟩
  . clear hw;go_simp;rfl
  simp only[Zae];refine Zan [11] (by kernel_rfl) (fun i hi hS o ho=>?_);simp only[Zbf] at hi;subst hi;simp only[Za2] at ho;subst ho;refine⟨rfl,?_⟩;obtain⟨e0,e1,e2,e3,e4,fz⟩:=cells5 gm;refine Zbd (w':=set5 v8 bx 0 N) rfl (Zav (k:=0) fz e0 e1 e2 e3 e4 _ _ _ _ _) ?_;have g1:Below w.heap.size w (set5 v8 bx 0 N):=Zbc gv g2 N;have ga:=Zbr gm N;refine⟨g1,?_⟩;simp only[Zae];clear e0 e1 e2 e3 e4 fz;refine Zac 12 rfl rfl (by kernel_rfl) ?_;apply Exists.intro;refine⟨fun w' hw=>?_,?_⟩
  . clear hw;go_simp;rfl
  simp only[Zae];refine Zbm (by kernel_rfl) ?_;obtain rfl:B=false:=HB.out;have g6:=Hd g1;obtain⟨W3,g4⟩:∃ W,W=set5 v8 bx 0 N:=⟨_,rfl⟩;rw[<- g4] at g6 ⊢;clear g4 g1 ga g7 HN gi g5 g0 HB;go_wp2_with fail;go_ret;exact g9.out _ g6.out
theorem Zl3 {o:Own}{w:World}{sb:Nat}{d:Zag}{s:Za7}(h:Zap o w sb d s)(hlt:Zal o w)(hl:Zci d (Za0 d)){rk:Nat->Nat}(ha:Acy (Zab d) rk)(f:Nat){b:BN}(hx:Zab d (enode f)=some b)
 (htop:∀ y b,Zab d y=some b->Za0 d y<1099511627776) (hpos:1<=Za0 d (enode f)) (hcn:∀ y b,Zab d y=some b->Zaz d y<=2199023255552) :
 Calls prog 143 #[.pointer (some ⟨sb,0,none⟩),.int .i64 f] w (Zfa o w sb d s f (-1)):=by
 obtain⟨c0,c1,c2,c3,c4,f0⟩:=cells5 h.blk;have lsb:sb<w.heap.size:=Zaa c0;have gC:okE (Zab d) f:=.inr ⟨b,hx⟩;have hf:f<eMax:=by have:=h.edge_lt gC;unfold eMax;omega
 have g1:=Za9 hx;have gq:=h.tk_lt hx;have gV:(d.pool.nd (enode f)).refs<1099511627776:=by have:=htop _ _ hx;rw[Zcq g1.1] at this;omega
 have hid:(d.pool.nd (enode f)).id=enode f:=h.pool.id _ g1.1;have gD:(decide (enode f=0)||d.pool.tk (enode f))=true:=by rw[g1.1];simp
 have gS:Hid (∀ W:World,Below w.heap.size w W->Calls prog 188 #[.pointer (some ⟨sb,0,none⟩),.int .i64 f] W fun x w'=>x=.returned (.bool true)/\Below W.heap.size W w'):=fun W hb=>by
  have h1:=Zbl (h.below hlt hb) (hlt.mono hb.size) f hf;rw[gD] at h1;exact h1
 have g7:Hid (∀ W:World,Below w.heap.size w W->Calls prog 194 #[.pointer (some ⟨s.pb,0,none⟩),.int .i64 (enode f:Nat)] W fun x w'=>x=.returned (.tuple #[Za6 (d.pool.has (enode f)),.bool (d.pool.tk (enode f))])/\Below W.heap.size W w') :=
  Hd (fun W hb=>Zc8 o s.pb d.pool (enode f) W (h.pool.below hb hlt) (hlt.mono hb.size))
 have gj:Hid (∀ W:World,Below w.heap.size w W->W.cell? ⟨sb,1,none⟩=some (.pointer (some ⟨s.pb,0,none⟩))):=Hd (fun W hb=>(hb.cell (p:=⟨sb,1,none⟩) lsb).trans c1);have HN:=Hd (fun W=>Zcv f W hf);obtain⟨r,hr⟩:∃ r,r=(d.pool.nd (enode f)).refs:=⟨_,rfl⟩;have h3:1<=r:=by rw[Zcq g1.1] at hpos;omega
 have go:Hid (∀ W:World,Below w.heap.size w W->Calls prog 195 #[.pointer (some ⟨s.pb,0,none⟩),Za6 ((d.pool.nd (enode f)).ref (r-1))] W fun x w'=>x=.returned (.int .i64 0)/\Zap o w' sb { d with pool:=d.pool.setNd (enode f) ((d.pool.nd (enode f)).ref (r-1)) } s/\Chg Zar o o w w'/\Zal o w'):=fun W hb=>by
  have gY:d.pool.tk ((d.pool.nd (enode f)).ref (r-1)).id=true:=by show d.pool.tk (d.pool.nd (enode f)).id=true;rw[hid];exact g1.1
  refine(Zh9 o s.pb d.pool ((d.pool.nd (enode f)).ref (r-1)) W (h.pool.below hb hlt) (hlt.mono hb.size) gY).mono ?_;rintro e w' ⟨rfl,hp,hc,gA⟩;have e1:((d.pool.nd (enode f)).ref (r-1)).id=enode f:=hid;rw[e1] at hp;exact⟨rfl,(h.below hlt hb).setPool (hlt.mono hb.size) hp (hc.mono (fun r hr=>by simp[Zfi,hr])),(Chg.of_below hb _ _).trans (hc.mono Zha),gA⟩
 have gk:Hid (∀ (W:World),Zap o W sb { d with pool:=d.pool.setNd (enode f) ((d.pool.nd (enode f)).ref (r-1)) } s->Zal o W->Chg Zar o o w W ->
  Calls prog 196 #[.pointer (some ⟨sb,0,none⟩),.int .i64 f] W fun e w'=>e=.returned (.tuple #[])/\Zfa o w sb d s f (-1) (.returned (.int .i64 0)) w'):=fun W hs gA h0=>by
  have gr:=Zhb (d:=d) (k:=r-1) gq.2.1 g1.1
  refine(Zgg o sb s rk (rk (enode f)+1) W _ (Za0 d) f ⟨hs,gA,by rw[gr];exact ha,by rw[gr];exact gC,Zlf gq.2.1 g1.1 hl,fun y q hq=>hcn y q (by rw[gr] at hq;exact hq),fun y q hq=>(by
   rw[gr] at hq
   by_cases e:enode f=y
   .
    subst e;have h1:Za0 d (enode f)=(r:Int):=by rw[Zcq g1.1,hr]
    have h2:toE f (enode f)=1:=Zjg f;rw[h1,h2];omega
   .
    have h1:toE f y=0:=if_neg e;have h2:0<=Za0 d y:=by unfold Za0;split<;>omega
    rw[h1];omega),.inr (Nat.lt_succ_self _)⟩).mono ?_
  rintro e w' ⟨cs,dd,rfl,gU,gX,gZ,_,_,gM⟩;refine⟨rfl,_,rfl,gU,gA.mono gM.size,⟨rfl,rfl,rfl,gr,rfl,rfl,rfl,by simp[Zag.cd,Zao.setNd],gZ,fun i hi=>?_,gX.congr (fun y b' hb'=>?_)⟩,h0.trans (gM.mono Zjd)⟩
  .
   show Za0 { d with pool:=d.pool.setNd (enode f) ((d.pool.nd (enode f)).ref (r-1)) } i=_
   rw[Zho gq.2.1 g1.1];dsimp only;unfold toE
   by_cases e:i=enode f
   . have e':f/2=i:=e.symm;rw[if_pos e,if_pos e',e,Zcq g1.1,<- hr];omega
   .
    have e':¬ f/2=i:=fun h'=>e h'.symm
    rw[if_neg e,if_neg e'];omega
  .
   show Za0 { d with pool:=d.pool.setNd (enode f) ((d.pool.nd (enode f)).ref (r-1)) } y=_
   rw[Zho gq.2.1 g1.1];dsimp only;unfold addE toE
   by_cases e:y=enode f
   . have e':f/2=y:=e.symm;rw[if_pos e,if_pos e',e,Zcq g1.1,<- hr];omega
   .
    have e':¬ f/2=y:=fun h'=>e h'.symm
    rw[if_neg e,if_neg e'];omega
 have gR:d.pool.has (enode f)=d.pool.nd (enode f):=g1.2.1;rw[gR] at g7;have gp:Hid (Za6 ((d.pool.nd (enode f)).ref (r-1))=.agg #[.int .i64 (d.pool.nd (enode f)).id,.int .i64 (d.pool.nd (enode f)).v,.int .i64 (d.pool.nd (enode f)).lo,.int .i64 (d.pool.nd (enode f)).hi,.int .i64 ((r:Int)-1)]):=by
  show _=_
  unfold Za6 RN.ref;dsimp only;rw[show ((r-1:Nat):Int)=(r:Int)-1 from by omega]
 rw[g1.1] at g7;rw[<- hr] at gV;obtain⟨N,hN⟩:∃ N,N=d.pool.nd (enode f):=⟨_,rfl⟩;have gQ:N.refs=r:=by rw[hN,hr]
 rw[<- hN] at g7 gp go gk;obtain⟨B,hB⟩:∃ B,B=true:=⟨_,rfl⟩;rw[<- hB] at g7;obtain⟨k,hk⟩:∃ k,k=enode f:=⟨_,rfl⟩;rw[<- hk] at g7 HN;have gn:=Hd hB;have gm:=Hd gQ;have h4:=Hd hk;clear h hlt hl ha hx htop hf g1 gD gq hid hr gR hN hB hk gC c0 c1 c2 c3 c4 f0 lsb gQ hpos hcn
 go_enter func143,ntmps143
 go_wp2_with fail;refine(gS.out _ (Below.refl _ _)).mono ?_;rintro x w1 ⟨rfl,gP⟩;have g9:=Hd gP;clear gP gS;go_upto_region 5 with fail;refine Zbs (fun W:World=>Below w.heap.size w W) 13 (by kernel_rfl) (Zak g9.out 1) ?_;refine Zac 0 rfl rfl (by kernel_rfl) ?_;apply Exists.intro;refine⟨fun w' hw=>?_,?_⟩
 . have ga:=gj.out w' hw;go_simp;rfl
 simp only[Zae];refine Zac 1 rfl rfl (by kernel_rfl) ?_;apply Exists.intro;refine⟨fun w' hw=>?_,?_⟩
 . have ga:=gj.out w' hw;go_simp;rfl
 simp only[Zae];refine Zac 2 rfl rfl (by kernel_rfl) ?_;apply Exists.intro;refine⟨fun w' hw=>?_,?_⟩
 . have ga:=gj.out w' hw;go_simp;rfl
 simp only[Zae];refine Zac 3 rfl rfl (by kernel_rfl) ?_;apply Exists.intro;refine⟨fun w' hw=>?_,?_⟩
 . have ga:=gj.out w' hw;go_simp;rfl
 simp only[Zae];refine Zac 4 rfl rfl (by kernel_rfl) ?_;apply Exists.intro;refine⟨fun w' hw=>?_,?_⟩
 . have ga:=gj.out w' hw;go_simp;rfl
 simp only[Zae];refine Zan [5,10] (by kernel_rfl) (fun i hi hS o ho=>?_);simp only[Zbf] at hi;rcases hi with rfl|rfl
 .
  skip
  simp only[Za2] at ho;subst ho;refine⟨rfl,?_⟩;refine Zas (v:=(.int .i64 k)) (R:=fun w'=>w1.drew=w') (by go_simp) (HN.out _) ?_;rintro w' rfl;refine⟨(Zak g9.out 1),?_⟩;simp only[Zae];refine Zan [6,10] (by kernel_rfl) (fun i hi hS o ho=>?_);simp only[Zbf] at hi;rcases hi with rfl|rfl
  .
   skip
   simp only[Za2] at ho;subst ho;refine⟨rfl,?_⟩;refine Zas (v:=(.tuple #[Za6 N,.bool B])) (R:=fun w'=>Below (w1.drew).heap.size (w1.drew) w') (by go_simp) (g7.out _ (Zak g9.out 1)) ?_;intro v2 gT;have gB:=(Zak g9.out 1).trans (gT.mono (Zak g9.out 1).size);refine⟨gB,?_⟩;simp only[Zae];unfold Za6;refine Zac 7 rfl rfl (by kernel_rfl) ?_;apply Exists.intro;refine⟨fun w' hw=>?_,?_⟩
   . clear hw;go_simp;rfl
   simp only[Zae];refine Zac 8 rfl rfl (by kernel_rfl) ?_;apply Exists.intro;refine⟨fun w' hw=>?_,?_⟩
   . clear hw;go_simp;rfl
   simp only[Zae];refine Zac 9 rfl rfl (by kernel_rfl) ?_;apply Exists.intro;refine⟨fun w' hw=>?_,?_⟩
   . clear hw;go_simp;rfl
   simp only[Zae];refine Zan [10] (by kernel_rfl) (fun i hi hS o ho=>?_);simp only[Zbf] at hi;subst hi;simp only[Za2] at ho;subst ho;refine⟨rfl,?_⟩;have gE:=gB.trans ((Zad (v2) (.cells #[.int .i64 0,.int .i64 0,.int .i64 0,.int .i64 0,.int .i64 0] 254)).mono gB.size);have gz:=heap_alloc_new (v2) (.cells #[.int .i64 0,.int .i64 0,.int .i64 0,.int .i64 0,.int .i64 0] 254);have g4:w.heap.size<=(v2).heap.size:=gB.size;refine Zay (v:=.pointer (some ⟨(v2).heap.size,0,none⟩)) (w':=(v2).alloc (.cells #[.int .i64 0,.int .i64 0,.int .i64 0,.int .i64 0,.int .i64 0] 254)) (by go_simp) ⟨gE,?_⟩;simp only[Zae];obtain⟨bx,gg⟩:∃ bx,bx=(v2).heap.size:=⟨_,rfl⟩;rw[<- gg] at gz g4 ⊢;obtain⟨u3,gL⟩:∃ u,u=(v2).alloc (.cells #[.int .i64 0,.int .i64 0,.int .i64 0,.int .i64 0,.int .i64 0] 254):=⟨_,rfl⟩;rw[<- gL] at gz gE ⊢;clear gL gg;refine Zan [11] (by kernel_rfl) (fun i hi hS o ho=>?_);simp only[Zbf] at hi;subst hi;simp only[Za2] at ho;subst ho;refine⟨rfl,?_⟩;obtain⟨e0,e1,e2,e3,e4,fz⟩:=cells5 gz;refine Zbd (w':=set5 u3 bx 0 N) rfl (Zav (k:=0) fz e0 e1 e2 e3 e4 _ _ _ _ _) ?_;have g5:Below w.heap.size w (set5 u3 bx 0 N):=Zbc gE g4 N;have gc:=Zbr gz N;refine⟨g5,?_⟩;simp only[Zae];clear e0 e1 e2 e3 e4 fz;refine Zac 12 rfl rfl (by kernel_rfl) ?_;apply Exists.intro;refine⟨fun w' hw=>?_,?_⟩
   . clear hw;go_simp;rfl
   simp only[Zae];refine Zbm (by kernel_rfl) ?_;obtain rfl:B=true:=gn.out;have g0:=gc;rw[gm.out] at g0;have g6:=Hd g0;have g8:=Hd g5;obtain⟨y0,y1,y2,y3,y4,yz⟩:=cells5 g0;obtain⟨W3,gi⟩:∃ W,W=set5 u3 bx 0 N:=⟨_,rfl⟩;rw[<- gi] at y0 y1 y2 y3 y4 yz g6 g8 ⊢;clear gi gc g0 g5 gm g7 HN gn;go_upto_region 11 with fail;have g2:=Zah (k:=4) g6.out (.int .i64 ((r:Int)-1));have g3:Below w.heap.size w (W3.setCell ⟨bx,4,none⟩ (.int .i64 ((r:Int)-1))):=g8.out.setCell (p:=⟨bx,4,none⟩) g4 _;obtain⟨W4,gh⟩:∃ W,W=W3.setCell ⟨bx,4,none⟩ (.int .i64 ((r:Int)-1)):=⟨_,rfl⟩;rw[<- gh] at g2 g3 ⊢;clear gh g6 g8 y0 y1 y2 y3 y4 yz;simp at g2;obtain⟨z0,z1,z2,z3,z4,zz⟩:=cells5 g2;have ga:=gj.out _ g3;refine Zam (fun w'=>w'=W4.drew) true 5 [(0,false),(1,false),(2,false),(3,false),(4,false),(5,true)] (by kernel_rfl) (by kernel_rfl) rfl ?_;simp only[planned,Zcc]
   iterate 5
    refine Zaj rfl ?_;apply Exists.intro;refine⟨fun w' hw=>?_,?_⟩
    . subst hw;go_simp;rfl
    simp only[Zae]
   refine Zdg rfl (fun K hK=>?_);unfold Oper.wp;go_simp;rw[<- gp.out];refine(go.out _ (Zak g3 1)).mono ?_;rintro x w5 ⟨rfl,gd,gf,ge⟩;refine hK _ _ (Zbz ?_);have gu:=Hd gd;have gw:=Hd gf;have gv:=Hd ge;clear gd gf ge g2 g3 z0 z1 z2 z3 z4 zz ga;go_wp2_with fail;refine(gk.out _ gu.out gv.out gw.out).mono ?_;rintro x w6 ⟨rfl,hp⟩;have HP:=Hd hp;clear hp;go_wp2_with fail;go_ret;exact HP.out
  .
   skip
   simp only[Za2] at ho;subst ho;refine⟨rfl,?_⟩;have gt:=(Zak g9.out 1).trans ((Zad (w1.drew) (.cells #[.int .i64 0,.int .i64 0,.int .i64 0,.int .i64 0,.int .i64 0] 254)).mono (Zak g9.out 1).size);have gy:=heap_alloc_new (w1.drew) (.cells #[.int .i64 0,.int .i64 0,.int .i64 0,.int .i64 0,.int .i64 0] 254);have g4:w.heap.size<=(w1.drew).heap.size:=(Zak g9.out 1).size;refine Zay (v:=.pointer (some ⟨(w1.drew).heap.size,0,none⟩)) (w':=(w1.drew).alloc (.cells #[.int .i64 0,.int .i64 0,.int .i64 0,.int .i64 0,.int .i64 0] 254)) (by go_simp) ⟨gt,?_⟩;simp only[Zae];obtain⟨bx,gg⟩:∃ bx,bx=(w1.drew).heap.size:=⟨_,rfl⟩;rw[<- gg] at gy g4 ⊢;obtain⟨u4,gK⟩:∃ u,u=(w1.drew).alloc (.cells #[.int .i64 0,.int .i64 0,.int .i64 0,.int .i64 0,.int .i64 0] 254):=⟨_,rfl⟩;rw[<- gK] at gy gt ⊢;clear gK gg;refine Zan [6] (by kernel_rfl) (fun i hi hS o ho=>?_);simp only[Zbf] at hi;subst hi;simp only[Za2] at ho;subst ho;refine⟨rfl,?_⟩;refine Zas (v:=(.tuple #[Za6 N,.bool B])) (R:=fun w'=>Below (u4).heap.size (u4) w') (by go_simp) (g7.out _ gt) ?_;intro v5 gI;have gO:=gt.trans (gI.mono gt.size);refine⟨gO,?_⟩;simp only[Zae];unfold Za6;have gG:=(gI.block _ (Array.getElem?_eq_some_iff.1 gy).1).trans gy;refine Zac 7 rfl rfl (by kernel_rfl) ?_;apply Exists.intro;refine⟨fun w' hw=>?_,?_⟩
   . clear hw;go_simp;rfl
   simp only[Zae];refine Zac 8 rfl rfl (by kernel_rfl) ?_;apply Exists.intro;refine⟨fun w' hw=>?_,?_⟩
   . clear hw;go_simp;rfl
   simp only[Zae];refine Zac 9 rfl rfl (by kernel_rfl) ?_;apply Exists.intro;refine⟨fun w' hw=>?_,?_⟩
   . clear hw;go_simp;rfl
   simp only[Zae];refine Zan [11] (by kernel_rfl) (fun i hi hS o ho=>?_);simp only[Zbf] at hi;subst hi;simp only[Za2] at ho;subst ho;refine⟨rfl,?_⟩;obtain⟨e0,e1,e2,e3,e4,fz⟩:=cells5 gG;refine Zbd (w':=set5 v5 bx 0 N) rfl (Zav (k:=0) fz e0 e1 e2 e3 e4 _ _ _ _ _) ?_;have g5:Below w.heap.size w (set5 v5 bx 0 N):=Zbc gO g4 N;have gc:=Zbr gG N;refine⟨g5,?_⟩;simp only[Zae];clear e0 e1 e2 e3 e4 fz;refine Zac 12 rfl rfl (by kernel_rfl) ?_;apply Exists.intro;refine⟨fun w' hw=>?_,?_⟩
   . clear hw;go_simp;rfl
   simp only[Zae];refine Zbm (by kernel_rfl) ?_;obtain rfl:B=true:=gn.out;have g0:=gc;rw[gm.out] at g0;have g6:=Hd g0;have g8:=Hd g5;obtain⟨y0,y1,y2,y3,y4,yz⟩:=cells5 g0;obtain⟨W3,gi⟩:∃ W,W=set5 v5 bx 0 N:=⟨_,rfl⟩;rw[<- gi] at y0 y1 y2 y3 y4 yz g6 g8 ⊢;clear gi gc g0 g5 gm g7 HN gn;go_upto_region 11 with fail;have g2:=Zah (k:=4) g6.out (.int .i64 ((r:Int)-1));have g3:Below w.heap.size w (W3.setCell ⟨bx,4,none⟩ (.int .i64 ((r:Int)-1))):=g8.out.setCell (p:=⟨bx,4,none⟩) g4 _;obtain⟨W4,gh⟩:∃ W,W=W3.setCell ⟨bx,4,none⟩ (.int .i64 ((r:Int)-1)):=⟨_,rfl⟩;rw[<- gh] at g2 g3 ⊢;clear gh g6 g8 y0 y1 y2 y3 y4 yz;simp at g2;obtain⟨z0,z1,z2,z3,z4,zz⟩:=cells5 g2;have ga:=gj.out _ g3;refine Zam (fun w'=>w'=W4.drew) true 5 [(0,false),(1,false),(2,false),(3,false),(4,false),(5,true)] (by kernel_rfl) (by kernel_rfl) rfl ?_;simp only[planned,Zcc]
   iterate 5
    refine Zaj rfl ?_;apply Exists.intro;refine⟨fun w' hw=>?_,?_⟩
    . subst hw;go_simp;rfl
    simp only[Zae]
   refine Zdg rfl (fun K hK=>?_);unfold Oper.wp;go_simp;rw[<- gp.out];refine(go.out _ (Zak g3 1)).mono ?_;rintro x w5 ⟨rfl,gd,gf,ge⟩;refine hK _ _ (Zbz ?_);have gu:=Hd gd;have gw:=Hd gf;have gv:=Hd ge;clear gd gf ge g2 g3 z0 z1 z2 z3 z4 zz ga;go_wp2_with fail;refine(gk.out _ gu.out gv.out gw.out).mono ?_;rintro x w6 ⟨rfl,hp⟩;have HP:=Hd hp;clear hp;go_wp2_with fail;go_ret;exact HP.out
 .
  skip
  simp only[Za2] at ho;subst ho;refine⟨rfl,?_⟩;have gl:=(Zak g9.out 1).trans ((Zad (w1.drew) (.cells #[.int .i64 0,.int .i64 0,.int .i64 0,.int .i64 0,.int .i64 0] 254)).mono (Zak g9.out 1).size);have gx:=heap_alloc_new (w1.drew) (.cells #[.int .i64 0,.int .i64 0,.int .i64 0,.int .i64 0,.int .i64 0] 254);have g4:w.heap.size<=(w1.drew).heap.size:=(Zak g9.out 1).size;refine Zay (v:=.pointer (some ⟨(w1.drew).heap.size,0,none⟩)) (w':=(w1.drew).alloc (.cells #[.int .i64 0,.int .i64 0,.int .i64 0,.int .i64 0,.int .i64 0] 254)) (by go_simp) ⟨gl,?_⟩;simp only[Zae];obtain⟨bx,gg⟩:∃ bx,bx=(w1.drew).heap.size:=⟨_,rfl⟩;rw[<- gg] at gx g4 ⊢;obtain⟨u6,gJ⟩:∃ u,u=(w1.drew).alloc (.cells #[.int .i64 0,.int .i64 0,.int .i64 0,.int .i64 0,.int .i64 0] 254):=⟨_,rfl⟩;rw[<- gJ] at gx gl ⊢;clear gJ gg;refine Zan [5] (by kernel_rfl) (fun i hi hS o ho=>?_);simp only[Zbf] at hi;subst hi;simp only[Za2] at ho;subst ho;refine⟨rfl,?_⟩;refine Zas (v:=(.int .i64 k)) (R:=fun w'=>u6=w') (by go_simp) (HN.out _) ?_;rintro w' rfl;refine⟨gl,?_⟩;simp only[Zae];refine Zan [6] (by kernel_rfl) (fun i hi hS o ho=>?_);simp only[Zbf] at hi;subst hi;simp only[Za2] at ho;subst ho;refine⟨rfl,?_⟩;refine Zas (v:=(.tuple #[Za6 N,.bool B])) (R:=fun w'=>Below (u6).heap.size (u6) w') (by go_simp) (g7.out _ gl) ?_;intro v8 gH;have gN:=gl.trans (gH.mono gl.size);refine⟨gN,?_⟩;simp only[Zae];unfold Za6;have gF:=(gH.block _ (Array.getElem?_eq_some_iff.1 gx).1).trans gx;refine Zac 7 rfl rfl (by kernel_rfl) ?_;apply Exists.intro;refine⟨fun w' hw=>?_,?_⟩
  . clear hw;go_simp;rfl
  simp only[Zae];refine Zac 8 rfl rfl (by kernel_rfl) ?_;apply Exists.intro;refine⟨fun w' hw=>?_,?_⟩
  . clear hw;go_simp;rfl
  simp only[Zae];refine Zac 9 rfl rfl (by kernel_rfl) ?_;apply Exists.intro;refine⟨fun w' hw=>?_,?_⟩
  . clear hw;go_simp;rfl
  simp only[Zae];refine Zan [11] (by kernel_rfl) (fun i hi hS o ho=>?_);simp only[Zbf] at hi;subst hi;simp only[Za2] at ho;subst ho;refine⟨rfl,?_⟩;obtain⟨e0,e1,e2,e3,e4,fz⟩:=cells5 gF;refine Zbd (w':=set5 v8 bx 0 N) rfl (Zav (k:=0) fz e0 e1 e2 e3 e4 _ _ _ _ _) ?_;have g5:Below w.heap.size w (set5 v8 bx 0 N):=Zbc gN g4 N;have gc:=Zbr gF N;refine⟨g5,?_⟩;simp only[Zae];clear e0 e1 e2 e3 e4 fz;refine Zac 12 rfl rfl (by kernel_rfl) ?_;apply Exists.intro;refine⟨fun w' hw=>?_,?_⟩
  . clear hw;go_simp;rfl
  simp only[Zae];refine Zbm (by kernel_rfl) ?_;obtain rfl:B=true:=gn.out;have g0:=gc;rw[gm.out] at g0;have g6:=Hd g0;have g8:=Hd g5;obtain⟨y0,y1,y2,y3,y4,yz⟩:=cells5 g0;obtain⟨W3,gi⟩:∃ W,W=set5 v8 bx 0 N:=⟨_,rfl⟩;rw[<- gi] at y0 y1 y2 y3 y4 yz g6 g8 ⊢;clear gi gc g0 g5 gm g7 HN gn;go_upto_region 11 with fail;have g2:=Zah (k:=4) g6.out (.int .i64 ((r:Int)-1));have g3:Below w.heap.size w (W3.setCell ⟨bx,4,none⟩ (.int .i64 ((r:Int)-1))):=g8.out.setCell (p:=⟨bx,4,none⟩) g4 _;obtain⟨W4,gh⟩:∃ W,W=W3.setCell ⟨bx,4,none⟩ (.int .i64 ((r:Int)-1)):=⟨_,rfl⟩;rw[<- gh] at g2 g3 ⊢;clear gh g6 g8 y0 y1 y2 y3 y4 yz;simp at g2;obtain⟨z0,z1,z2,z3,z4,zz⟩:=cells5 g2;have ga:=gj.out _ g3;refine Zam (fun w'=>w'=W4.drew) true 5 [(0,false),(1,false),(2,false),(3,false),(4,false),(5,true)] (by kernel_rfl) (by kernel_rfl) rfl ?_;simp only[planned,Zcc]
  iterate 5
   refine Zaj rfl ?_;apply Exists.intro;refine⟨fun w' hw=>?_,?_⟩
   . subst hw;go_simp;rfl
   simp only[Zae]
  refine Zdg rfl (fun K hK=>?_);unfold Oper.wp;go_simp;rw[<- gp.out];refine(go.out _ (Zak g3 1)).mono ?_;rintro x w5 ⟨rfl,gd,gf,ge⟩;refine hK _ _ (Zbz ?_);have gu:=Hd gd;have gw:=Hd gf;have gv:=Hd ge;clear gd gf ge g2 g3 z0 z1 z2 z3 z4 zz ga;go_wp2_with fail;refine(gk.out _ gu.out gv.out gw.out).mono ?_;rintro x w6 ⟨rfl,hp⟩;have HP:=Hd hp;clear hp;go_wp2_with fail;go_ret;exact HP.out
open Go.RowKit
structure Zur (p p':Zao)(id:Nat)(n:RN):Prop where
 get:∀ i,p'.get i=if i=id then some { n with id:=id } else p.get i
 none:p.tk id=false
 pos:0<id
 lt:id<p'.at_.length
 le:p.at_.length<=p'.at_.length
 many:p'.many=p.many+1
 room:p'.room=p.room
theorem Zp3 (o:Own)(pb:Nat)(p:Zao)(n:RN)(w:World)(h:Zat o w pb p)(hlt:Zal o w) :
 Calls prog 242 #[.pointer (some ⟨pb,0,none⟩),Za6 n] w fun x w'=>(p.many=p.room/\x=.returned (.tuple #[.int .i64 0,.int .i64 7])/\Below w.heap.size w w') \/
  (∃ id p' o',x=.returned (.tuple #[.int .i64 (id:Nat),.int .i64 0])/\Zat o' w' pb p'/\Zur p p' id n/\Chg Zfi o o' w w'/\Zal o' w'):=by
 rcases List.eq_nil_or_concat p.free with hf|⟨fs,id,hf⟩
 .
  by_cases hr:p.at_.length<=p.room
  . refine(Zlx o pb p n w h hlt hf hr).mono ?_;rintro e w' ⟨rfl,o',h1,h2,h3⟩;refine .inr ⟨_,_,o',rfl,h1,⟨fun i=>Zao.fresh_get h.len i,?_,h.pos,by simp[Zao.fresh],by simp[Zao.fresh],rfl,rfl⟩,h2,h3⟩;simp[Zao.tk,List.getD,List.getElem?_eq_none (Nat.le_of_eq h.len)]
  . refine(Znw o pb p n w h hf (by omega)).mono ?_;rintro e w' ⟨rfl,hb⟩;refine .inl ⟨?_,rfl,hb⟩;have h1:=h.many;have h2:=h.top;rw[hf] at h1;simp at h1;omega
 . rw[List.concat_eq_append] at hf;have hm:=h.free id (by rw[hf];simp);refine(Zly o pb p n fs id w h hlt hf).mono ?_;rintro e w' ⟨rfl,h1,h2,h3⟩;exact .inr ⟨id,_,o,rfl,h1,⟨fun i=>Zao.reuse_get hm.2.1 (by rw[h.len];exact hm.2.1) i,hm.2.2,hm.1,by simp[Zao.reuse];exact hm.2.1,by simp[Zao.reuse],rfl,rfl⟩,h2,h3⟩
structure Zkh (d d':Zag)(id v lo hi:Nat):Prop where
 vars:d'.vars=d.vars
 level:d'.level=d.level
 tab:d'.tab=fun u=>if u=v then putF (d.tab v) (lo,hi) (some id) else d.tab u
 nodes:Zab d'=addN (Zab d) id ⟨v,lo,hi⟩
 none:Zab d id=none
 pos:0<id
 many:d'.pool.many=d.pool.many+1
 room:d'.pool.room=d.pool.room
 ext:Za0 d'=fun i=>if i=id then 0 else Za0 d i
 live:Zci d' (Za0 d')
 clen:d'.counts.length<=1048578
 cnt:Zaz d'=setC (Zaz d) id 0
def Zzt (o:Own)(w:World)(sb:Nat)(d:Zag)(v lo hi:Nat)(e:Ending)(w':World):Prop :=
 (d.pool.many=d.pool.room/\e=.returned (.tuple #[.int .i64 0,.int .i64 7])/\Below w.heap.size w w') \/
 (∃ id d' o',e=.returned (.tuple #[.int .i64 (id:Nat),.int .i64 0])/\Zax o' w' sb d'/\Zal o' w'/\Zkh d d' id v lo hi/\Chg Zar o o' w w')
theorem Zve {k k':Nat}{N:Nat->Option BN}{c:Nat->Nat}{id:Nat}{b:BN}(hlt:∀ i b,N i=some b->i<k)(hk:k<=k')(hf:N id=none)(hid:id<k'):Zek k' (addN N id b) (setC c id 0)=Zek k N c+1:=by
 unfold Zek;rw[Zdu (f:=dead1 N c) (j:=id) (fun i hi=>?_) k' hid]
 .
  rw[Zqj (k:=k) (fun i hi=>?_) hk]
  . simp[dead1,hf,Zb4,setC]
  .
   unfold dead1;cases e:N i with
   | none=>rfl
   | some b'=>exact absurd (hlt i b' e) (by omega)
 . unfold dead1;rw[Zba _ hi];simp only[setC,if_neg hi]
section
variable {o o':Own}{w w':World}{sb:Nat}{d:Zag}{s:Za7}
theorem Zap.setVc (h:Zap o w sb d s)(hlt:Zal o w){v:Value}{cs:List Nat}(hr:RowR o' w' .counts 3 1 v cs.length (cs.map nat64))(hc:Chg (· = .counts) o o' w w'):Zap o' (w'.setCell ⟨sb,3,none⟩ v) sb (d.cd cs d.dead) { s with vc:=v }:=by
 have g0:=hc.ext _ _ h.own;have ne:∀ {b r},o' b=some r->r ≠ .store->b≠sb:=fun hb hr e=>by subst e;rw[g0] at hb;cases hb;exact hr rfl
 have k1:∀ {b r},o' b=some r->r ≠ .store->(w'.setCell ⟨sb,3,none⟩ v).heap[b]?=w'.heap[b]?:=fun hb hr=>Zai (ne hb hr) _
 refine⟨g0,hc.ext _ _ h.ownl,Zah (k:=3) ((hc.same hlt h.own (by simp)).trans h.blk) _,(k1 (hc.ext _ _ h.ownl) (by simp)).trans ((hc.same hlt h.ownl (by simp)).trans h.lev),
  (h.vars.chg hc hlt (by simp)).keep (fun g hg=>k1 hg (by simp)) (fun _ h=>h),(h.level.chg hc hlt (by simp)).keep (fun g hg=>k1 hg (by simp)) (fun _ h=>h),
  (h.pool.chg hc hlt (by simp) (by simp) (by simp) (by simp)).keep (fun g r hg hr=>k1 hg (by rcases hr with rfl|rfl|rfl|rfl<;>simp)) (fun _ _ h=>h),
  (h.tabs.chg hc hlt (by simp)).keep (fun g hg=>k1 hg (by simp)) (fun _ h=>h),
  fun u hu=>((h.tab u hu).chg hc hlt (by simp) (by simp)).keep (fun g r hg hr=>k1 hg (by rcases hr with rfl|rfl<;>simp)) (fun _ _ h=>h),
  hr.keep (fun g hg=>k1 hg (by simp)) (fun _ h=>h),h.len,h.tlen⟩
end
theorem Zap.tabAt {o:Own}{w:World}{sb:Nat}{d:Zag}{s:Za7}(h:Zap o w sb d s){v:Nat}(hv:v<d.vars.length):∃ gt cap,s.vt=.slice (some ⟨gt,0,none⟩) s.ts.length cap/\w.cell? ⟨gt,v,none⟩=some (.pointer (some ⟨s.ts.getD v 0,0,none⟩))/\v<s.ts.length/\s.ts.length<=9223372036854775807:=by
 have g0:v<s.ts.length:=by rw[h.tlen];exact hv
 obtain⟨gt,cap,g1,_,h1,h2⟩:=h.tabs.shape (by omega);have hr:=h.tabs;rw[g1] at hr;refine⟨gt,cap,g1,?_,g0,by unfold maxLen at h2;omega⟩;rw[hr.cell v (by simpa using g0),List.getElem?_map,List.getElem?_eq_getElem g0];simp[ptrV,List.getD,g0]
structure AddS (o:Own)(w:World)(sb:Nat)(d:Zag)(ts:List Nat)(vt:Value)(o1:Own)(wx:World):Prop where
 st:∃ s,Zap o1 wx sb d s/\s.ts=ts/\s.vt=vt
 lt:Zal o1 wx
 chg:Chg Zar o o1 w wx
theorem Zvq:(prog.info? 3).map (fun i=>(i.zero,i.size,i.bytes))=some (some (.int .i64 0),1,8):=by kernel_rfl
def padC (cs:List Nat)(j:Nat):List Nat:=cs++List.replicate j 0
theorem Zwn (cs:List Nat)(j:Nat):padC cs (j+1)=padC cs j++[0]:=by unfold padC;rw[List.replicate_succ',List.append_assoc]
theorem Zit (cs:List Nat)(j:Nat):(padC cs j).length=cs.length+j:=by simp[padC]
theorem Zyk (cs:List Nat)(j i:Nat):(padC cs j).getD i 0=cs.getD i 0:=by
 unfold padC;simp only[List.getD,List.getElem?_append];split
 . rfl
 .
  rename_i h
  rw[List.getElem?_eq_none (l:=cs) (by omega),List.getElem?_replicate];split<;>rfl
def Zag.added (d:Zag)(p':Zao)(cs:List Nat)(id v lo hi:Nat):Zag:=⟨d.vars,d.level,p',fun u=>if u=v then putF (d.tab v) (lo,hi) (some id) else d.tab u,cs.set id 0,d.dead+1⟩
theorem Zuv {d:Zag}{p':Zao}{id v lo hi j:Nat}(hl:Zci d (Za0 d))(hok:∀ i b,Zab d i=some b->okE (Zab d) b.lo/\okE (Zab d) b.hi)(hr:Zur d.pool p' id ⟨0,v,lo,hi,0⟩)
 (hid:id<(padC d.counts j).length) (hcl:(padC d.counts j).length<=1048578):Zkh d (d.added p' (padC d.counts j) id v lo hi) id v lo hi:=by
 have g0:Zab d id=none:=by unfold Zab Zao.get;rw[if_neg (by rw[hr.none];simp)];rfl
 have g1:Zab (d.added p' (padC d.counts j) id v lo hi)=addN (Zab d) id ⟨v,lo,hi⟩:=by
  funext i;unfold Zab Zag.added;dsimp only;rw[hr.get]
  by_cases e:i=id
  . subst e;rw[if_pos rfl,Zb4];rfl
  . rw[if_neg e,Zba _ e]
 have g4:∀ i,p'.tk i=if i=id then true else d.pool.tk i:=fun i=>by
  have h1:=hr.get i;unfold Zao.get at h1
  by_cases e:i=id
  .
   rw[if_pos e] at h1 ⊢;split at h1
   . assumption
   . cases h1
  .
   rw[if_neg e] at h1 ⊢
   by_cases h2:p'.tk i=true<;>by_cases h3:d.pool.tk i=true<;>simp[h2,h3] at h1 ⊢
 have g3:Za0 (d.added p' (padC d.counts j) id v lo hi)=fun i=>if i=id then 0 else Za0 d i:=by
  funext i;unfold Za0;have h1:=hr.get i
  show (if p'.tk i=true then ((p'.nd i).refs:Int) else 0)=_
  rw[g4];unfold Zao.get at h1;rw[g4] at h1
  by_cases e:i=id
  . rw[if_pos e] at h1;simp only[e,if_true] at h1 ⊢;have h2:=Option.some.inj h1;rw[h2];rfl
  .
   rw[if_neg e] at h1;simp only[if_neg e] at h1 ⊢
   by_cases h3:d.pool.tk i=true
   . rw[if_pos h3,if_pos h3] at h1;rw[if_pos h3,if_pos h3,Option.some.inj h1]
   . rw[if_neg h3,if_neg h3]
 have g2:Zaz (d.added p' (padC d.counts j) id v lo hi)=setC (Zaz d) id 0:=by
  funext i;unfold Zaz setC Zag.added;dsimp only
  by_cases e:i=id
  . subst e;rw[if_pos rfl];simp[List.getD,hid]
  . rw[if_neg e,<- Zyk d.counts j i];simp only[List.getD,List.getElem?_set,if_neg (Ne.symm e)]
 have g5:id≠0:=by have:=hr.pos;omega
 refine⟨rfl,rfl,rfl,g1,g0,hr.pos,hr.many,hr.room,g3,⟨?_,?_,fun i b hb=>?_⟩,by simpa [Zag.added] using hcl,g2⟩
 .
  rw[g1,g2,g3]
  show Cnt p'.at_.length _ _ _
  refine Cnt.add (hl.cnt.weaken hr.le) g0 (fun i bi hb=>?_) hr.lt;have h1:=hok i bi hb;constructor
  .
   rcases h1.1 with h2|⟨c,h2⟩
   . omega
   . intro e;rw[e,g0] at h2;cases h2
  .
   rcases h1.2 with h2|⟨c,h2⟩
   . omega
   . intro e;rw[e,g0] at h2;cases h2
 .
  rw[g1,g2]
  show ((d.dead+1:Nat):Int)=Zek p'.at_.length _ _
  rw[Zve hl.cnt.lt hr.le g0 hr.lt,<- hl.dead];omega
 .
  rw[g1] at hb
  show i<((padC d.counts j).set id 0).length
  rw[List.length_set]
  by_cases e:i=id
  . subst e;exact hid
  . rw[Zba _ e] at hb;have:=hl.has i b hb;rw[Zit];omega
theorem Zju {o:Own}{w:World}{sb:Nat}{d:Zag}{s:Za7}(h:Zap o w sb d s)(hlt:Zal o w)(hl:Zci d (Za0 d))(hok:∀ i b,Zab d i=some b->okE (Zab d) b.lo/\okE (Zab d) b.hi)
 (v lo hi:Nat) (hv:v<d.vars.length) (ht:d.tab v (lo,hi)=none) (hcl:d.counts.length<=1048578) :
 Calls prog 227 #[.pointer (some ⟨sb,0,none⟩),.int .i64 v,.int .i64 lo,.int .i64 hi] w (Zzt o w sb d v lo hi):=by
 obtain⟨c0,c1,c2,c3,c4,f0⟩:=cells5 h.blk;have gh:=Hd (Zp3 o s.pb d.pool ⟨0,v,lo,hi,0⟩ w h.pool hlt);have h9:Hid (Za6 ⟨0,v,lo,hi,0⟩=.agg #[.int .i64 0,.int .i64 v,.int .i64 lo,.int .i64 hi,.int .i64 0]):=rfl;have HH:=Hd h;have hd:=Hd hlt;have gP:=Hd (fun p' id j hr h1 h2=>Zuv (p':=p') (id:=id) (v:=v) (lo:=lo) (hi:=hi) (j:=j) hl hok hr h1 h2);have gA:Hid (d.dead<=1048577):=by
  show _<=_
  have h1:=hl.dead;have h2:=Ziz (f:=dead1 (Zab d) (Zaz d)) (B:=1) d.pool.at_.length (fun i _=>by unfold dead1;split<;>first|omega|(split<;>omega));have h3:Zek d.pool.at_.length (Zab d) (Zaz d)=Zaw d.pool.at_.length (dead1 (Zab d) (Zaz d)):=rfl;have h4:=h.pool.top;have h5:=h.pool.room;omega
 have HV:=Hd hv;have HT:=Hd ht;clear h hlt hl hok hv ht
 go_enter func227,ntmps227
 go_wp2_with fail;rw[<- h9.out];refine gh.out.mono ?_;rintro x w1 (⟨hm,rfl,hb⟩|⟨id,p',o1,rfl,hp,hr,hc,g7⟩)
 .
  have HM:=Hd hm;have HB:=Hd hb;clear hm hb;go_wp2_with fail
  go_ret2
  exact .inl ⟨HM.out,rfl,HB.out⟩
 .
  have st1:=HH.out.setPool hd.out hp hc;have gU:=hp.tk_lt (i:=id) (by have h1:=hr.get id;unfold Zao.get at h1;rw[if_pos rfl] at h1;split at h1;(· assumption);cases h1);have gS:=hp.top;have gT:=hp.room;have gJ:Hid (AddS o w sb { d with pool:=p' } s.ts s.vt o1 w1):=⟨⟨s,st1,rfl,rfl⟩,g7,hc.mono (fun r hr=>by simp[Zar,hr])⟩;have HR:=Hd hr;have hw:id<=1048577:=by omega
  clear hp hr hc g7 st1 gh gU gS gT c0 c1 c2 c3 c4 f0;go_wp2_with fail
  go_loopg [] (id+1-d.counts.length) (fun gk wx=>∃ (j:Nat) (o2:Own),AddS o w sb { d with pool:=p',counts:=padC d.counts j } s.ts s.vt o2 wx/\j+gk=id+1-d.counts.length)
  case atStart=>exact⟨0,o1,by have e:padC d.counts 0=d.counts:=by { simp[padC] };rw[e];exact gJ.out,by omega⟩
  case round =>
   obtain⟨j,o2,hS,hj⟩:=hrel;obtain⟨⟨s2,g0,gm,g4⟩,ge,gg⟩:=hS;clear gJ;obtain⟨c0,c1,c2,c3,c4,f0⟩:=cells5 g0.blk;have lsb:sb<wr.heap.size:=Zaa c0;have g6:(padC d.counts j).length<=1048578:=by rw[Zit];omega
   have g9:=Hd g0;have gi:=Hd ge;have gL:=Hd gg;have h6:=Hd gm;have gZ:=Hd g4
   by_cases hlt:(padC d.counts j).length<=id
   .
    obtain⟨a,cap,hv,hA,gI,hq,_⟩:=g0.counts.slice;have g3:s2.vc=.slice a (padC d.counts j).length cap:=hv;rw[g3] at c3;have HJ:=Hd hj;have gy:RowR o2 wr .counts 3 1 (.slice a (padC d.counts j).length cap) (padC d.counts j).length ((padC d.counts j).map nat64):=by have:=g0.counts;rw[g3] at this;exact this
    have hz:0<gk:=by rw[Zit] at hlt;omega
    have gd:((padC d.counts j).length:Int)<=id:=by omega
    obtain⟨cl,g2⟩:∃ n,n=(padC d.counts j).length:=⟨_,rfl⟩;rw[<- g2] at g6 hlt gd c3 gy;have gQ:=Hd gy;have hh:=Hd g2;clear g0 ge gg gm g4 hv g3 gy hj g2
    go_wp2_with (at_builtin
                 refine Zdv 23 3 1 8 _ underlying23 Zvq rfl (by decide) rfl _ _ rfl rfl rfl rfl (by simp) rfl (fun u hu=>by simp at hu;subst hu;rfl) gQ.out gi.out (by omega) (by decide) ?_;intro g1 k1 w2 o3 gD gu g7;obtain⟨q0,q1,q2,q3,q4,fq⟩:=cells5 ((gu.same gi.out g9.out.own (by simp)).trans g9.out.blk);have ha:=Hd gD;have gz:=Hd gu;have hf:=Hd g7;clear gD gu g7 c0 c1 c2 c3 c4 f0)
    have go:=ha.out;rw[show (padC d.counts j).map nat64++(#[Value.int .i64 0]:Array Value).toList=(padC d.counts (j+1)).map nat64 from by rw[Zwn,List.map_append];rfl] at go;have e1:cl+1=(padC d.counts (j+1)).length:=by rw[hh.out,Zit,Zit];omega
    have gO:=Hd (g9.out.setVc (cs:=padC d.counts (j+1)) gi.out (by rw[<- e1];exact go) gz.out);have h8:Hid (AddS o w sb { d with pool:=p',counts:=padC d.counts (j+1) } s.ts s.vt o3 (w2.setCell ⟨sb,3,none⟩ (.slice (some ⟨g1,0,none⟩) (cl+1) k1))):=⟨⟨_,gO.out,h6.out,gZ.out⟩,hf.out.mono (by simp[World.setCell]),(gL.out.trans (gz.out.mono (fun r hr=>by simp[Zar,hr]))).setCell (p:=⟨sb,3,none⟩) (gz.out.ext _ _ g9.out.own) (.inl rfl) _⟩;clear go e1
    go_roundg (gk-1)
    case measure=>omega
    case rel=>exact⟨j+1,o3,h8.out,by have:=HJ.out;omega⟩
   .
    have g5:id<(padC d.counts j).length:=by omega
    have gd:(id:Int)<(padC d.counts j).length:=by omega
    obtain⟨gc,cap,gj,gF,gp,gV,gI,gG,gf⟩:=g0.countsAt g5;have g3:s2.vc=.slice (some ⟨gc,0,none⟩) (padC d.counts j).length cap:=gj;rw[g3] at c3;have gY:=gf _ g5;have gX:=gG id;have gM:sb≠gc:=fun e=>gp e.symm
    have st3:=g0.setCount gj gp id 0;have lt3:Zal o2 (wr.setCell ⟨gc,id,none⟩ (.int .i64 ((0:Nat):Int))):=ge.mono (by simp[World.setCell]);have st4:=st3.setDead lt3 (d.dead+1);have lt4:Zal o2 ((wr.setCell ⟨gc,id,none⟩ (.int .i64 ((0:Nat):Int))).setCell ⟨sb,4,none⟩ (.int .i64 ((d.dead+1:Nat):Int))):=lt3.mono (by simp[World.setCell]);have ch4:=(gg.setCell (p:=⟨gc,id,none⟩) gF (by simp[Zar]) (.int .i64 ((0:Nat):Int))).setCell (p:=⟨sb,4,none⟩) g0.own (by simp[Zar]) (.int .i64 ((d.dead+1:Nat):Int));have gH:d.dead<=1048577:=gA.out;have g8:(padC d.counts j).length<=9223372036854775807:=by omega
    obtain⟨W4,gv⟩:∃ W,W=(wr.setCell ⟨gc,id,none⟩ (.int .i64 ((0:Nat):Int))).setCell ⟨sb,4,none⟩ (.int .i64 ((d.dead+1:Nat):Int)):=⟨_,rfl⟩;rw[<- gv] at st4 lt4 ch4;have gw:Hid (W4=(wr.setCell ⟨gc,id,none⟩ (.int .i64 0)).setCell ⟨sb,4,none⟩ (.int .i64 ((d.dead:Int)+1))):=by
     show _=_
     rw[gv,show ((d.dead+1:Nat):Int)=(d.dead:Int)+1 from by omega];rfl
    have ga:=Hd st4;have gK:=Hd lt4;have hn:=Hd ch4;have hg:=Hd g5;obtain⟨cl,g2⟩:∃ n,n=(padC d.counts j).length:=⟨_,rfl⟩;rw[<- g2] at gd c3 g6 g8;have gR:Hid ((padC d.counts j).length<=1048578):=by show _<=_;omega
    obtain⟨dn,gq⟩:∃ n,n=d.dead:=⟨_,rfl⟩;have c4':wr.cell? ⟨sb,4,none⟩=some (.int .i64 (dn:Nat)):=by rw[gq];exact c4
    rw[<- gq] at gH gw;clear g0 ge gg gm g4 gj gF gp gV gI gG gf g3 st3 lt3 st4 lt4 ch4 gv hlt g5 c4 g2 gq g9 gi gL hj;have gN:¬ ((cl:Int)<=id):=by omega
    go_upto_region 8 with fail;rw[<- gw.out];clear gw c0 c1 c2 c3 c4' f0 gY gX gM gd gN gH g6 g8;obtain⟨c0,c1,c2,c3,c4,f0⟩:=cells5 ga.out.blk;obtain⟨gt,ct,g4,cellv,gB⟩:=ga.out.tabAt (v:=v) HV.out;rw[g4] at c2;have gC:=ga.out.tab v (by rw[ga.out.tlen];exact HV.out);have gx:=Hd (Zwr o2 v (s2.ts.getD v 0) (d.tab v) lo hi id W4 gC gK.out HT.out);have ho:(v:Int)<s2.ts.length:=by omega
    obtain⟨tv,gl⟩:∃ t,t=s2.ts.getD v 0:=⟨_,rfl⟩;rw[<- gl] at cellv gx;have h0:=Hd gl;have hy:s2.ts.length<=9223372036854775807:=gB.2;clear gC gl g4 gB;go_wp2_with fail;refine gx.out.mono ?_;rintro x w5 ⟨rfl,gn,gr,gE⟩;rw[h0.out] at gn;have h7:=Hd (ga.out.setTab gK.out gn gr);have he:=Hd gE;have hk:=Hd (hn.out.trans (gr.mono (fun r hr=>by simp[Zar,hr])));clear gn gr gE c0 c1 c2 c3 c4 f0 cellv;go_wp2_with fail
    go_ret2
    exact .inr ⟨id,d.added p' (padC d.counts j) id v lo hi,o2,rfl,⟨s2,h7.out⟩,he.out,gP.out p' id j HR.out hg.out gR.out,hk.out⟩
open Go.RowKit
def levN (d:Zag)(v:Nat):Nat:=d.level.getD v 0
structure Zaq (d:Zag)(V:Nat->BF):Prop where
 dag:Dag d.vars.length (levN d) (Zab d) V
 live:Zci d (Za0 d)
 tab:∀ v,v<d.vars.length->∀ lo hi id,d.tab v (lo,hi)=some id↔Zab d id=some ⟨v,lo,hi⟩
 clen:d.counts.length<=1048578
 small:d.vars.length<=64
 inv:∀ v,v<d.vars.length->d.vars.getD (levN d v) 0=v
 vlt:∀ i,i<d.vars.length->d.vars.getD i 0<d.vars.length/\levN d (d.vars.getD i 0)=i
structure Ext (d:Zag)(V:Nat->BF)(d':Zag)(V':Nat->BF):Prop where
 vars:d'.vars=d.vars
 level:d'.level=d.level
 room:d'.pool.room=d.pool.room
 nodes:∀ i b,Zab d i=some b->Zab d' i=some b
 val:∀ i,(i=0\/∃ b,Zab d i=some b)->V' i=V i
 ext:∀ i b,Zab d i=some b->Za0 d' i=Za0 d i
 ext0:∀ i,Zab d i=none->Za0 d' i=0
 many:d.pool.many<=d'.pool.many
theorem Zes {d:Zag}{i:Nat}(h:Zab d i=none):Za0 d i=0:=by unfold Za0;rw[Zg3 h];simp
theorem Ext.refl (d:Zag)(V:Nat->BF):Ext d V d V:=⟨rfl,rfl,rfl,fun _ _ h=>h,fun _ _=>rfl,fun _ _ _=>rfl,fun _ h=>Zes h,Nat.le_refl _⟩
theorem Ext.trans {d d' d'':Zag}{V V' V'':Nat->BF}(h:Ext d V d' V')(h':Ext d' V' d'' V''):Ext d V d'' V'':=by
 refine⟨h'.vars.trans h.vars,h'.level.trans h.level,h'.room.trans h.room,fun i b hb=>h'.nodes i b (h.nodes i b hb),fun i hi=>?_,fun i b hb=>?_,fun i hi=>?_,Nat.le_trans h.many h'.many⟩
 . rw[h'.val i (hi.imp id fun⟨b,hb⟩=>⟨b,h.nodes i b hb⟩)];exact h.val i hi
 . rw[h'.ext i b (h.nodes i b hb)];exact h.ext i b hb
 .
  cases e:Zab d' i with
  | none=>exact h'.ext0 i e
  | some b=>rw[h'.ext i b e];exact h.ext0 i hi
section
variable {d d':Zag}{V V':Nat->BF}
theorem Ext.ok (h:Ext d V d' V'){e:Nat}(he:okE (Zab d) e):okE (Zab d') e:=he.imp id fun⟨b,hb⟩=>⟨b,h.nodes _ b hb⟩
theorem Ext.ef (h:Ext d V d' V'){e:Nat}(he:okE (Zab d) e):ef V' e=ef V e:=by
 funext ρ;unfold Go.Proofs.YtkbegdkpboklpaaGreat.ef;rw[h.val (e/2) he]
theorem Ext.lev (h:Ext d V d' V'):levN d'=levN d:=by funext v;unfold levN;rw[h.level]
theorem Ext.lvE (h:Ext d V d' V'){n:Nat}{e:Nat}(he:okE (Zab d) e)(h0:Zab d 0=none)(h0':Zab d' 0=none):lvE n (levN d') (Zab d') e=lvE n (levN d) (Zab d) e:=by
 unfold Go.Proofs.YtkbegdkpboklpaaGreat.lvE;rw[h.lev];rcases he with he|⟨b,hb⟩
 . rw[he,h0,h0']
 . rw[hb,h.nodes _ b hb]
theorem Zuu {id v lo hi:Nat}(h:Zaq d V)(r:Zkh d d' id v lo hi)(hv:v<d.vars.length)(hlo:okE (Zab d) lo)(hhi:okE (Zab d) hi)
 (llo:levN d v<lvE d.vars.length (levN d) (Zab d) lo) (lhi:levN d v<lvE d.vars.length (levN d) (Zab d) hi) (hr:hi%2=0) (hne:lo≠hi) (ht:d.tab v (lo,hi)=none) :
 Zaq d' (addV V id ⟨v,lo,hi⟩)/\Ext d V d' (addV V id ⟨v,lo,hi⟩):=by
 have g1:∀ i,Zab d i≠some ⟨v,lo,hi⟩:=fun i e=>by rw[(h.tab v hv lo hi i).2 e] at ht;cases ht
 have hl:levN d'=levN d:=by funext u;unfold levN;rw[r.level]
 have hid:id≠0:=by have:=r.pos;omega
 refine⟨⟨?_,r.live,fun u hu lo' g0 i=>?_,r.clen,by rw[r.vars];exact h.small,?_,?_⟩,⟨r.vars,r.level,r.room,fun i b hb=>?_,fun i g0=>?_,fun i b hb=>?_,fun i g0=>?_,by rw[r.many];omega⟩⟩
 . rw[r.vars,hl,r.nodes];exact h.dag.add r.none hid hv hlo hhi llo lhi hr hne g1
 .
  rw[r.vars] at hu;rw[r.tab,r.nodes];dsimp only
  by_cases e:u=v
  .
   subst e;rw[if_pos rfl];unfold putF
   by_cases e2:(lo',g0)=(lo,hi)
   .
    cases e2;rw[if_pos rfl];constructor
    . intro e3;cases e3;rw[Zb4]
    .
     intro e3
     by_cases e4:i=id
     . rw[e4]
     . rw[Zba _ e4] at e3;exact absurd e3 (g1 i)
   .
    rw[if_neg e2,h.tab u hu]
    by_cases e4:i=id
    .
     subst e4;rw[Zb4,r.none];constructor
     . intro e5;cases e5
     . intro e5;cases e5;exact absurd rfl e2
    . rw[Zba _ e4]
  .
   rw[if_neg e,h.tab u hu]
   by_cases e4:i=id
   .
    subst e4;rw[Zb4,r.none];constructor
    . intro e5;cases e5
    . intro e5;cases e5;exact absurd rfl e
   . rw[Zba _ e4]
 . rw[r.vars,hl];exact h.inv
 . rw[r.vars,hl];exact h.vlt
 . rw[r.nodes];exact Zm4 r.none hb
 .
  unfold addV;rw[if_neg];rintro rfl;rcases g0 with g0|⟨b,hb⟩
  . exact hid g0
  . rw[r.none] at hb;cases hb
 . rw[r.ext];dsimp only;rw[if_neg];rintro rfl;rw[r.none] at hb;cases hb
 .
  rw[r.ext];dsimp only;split
  . rfl
  . exact Zes g0
theorem Zwk (h:Zaq d V){id v lo hi:Nat}(hb:Zab d id=some ⟨v,eflip lo (eneg hi),eflip hi (eneg hi)⟩):ef V (eflip (2*id) (eneg hi))=iteF v (ef V hi) (ef V lo):=by
 funext ρ;have h1:=h.dag.eqn id _ hb;have h2:ef V (2*id)=V id:=by
  funext ρ;have e1:2*id/2=id:=by omega
  have e2:2*id%2=0:=by omega
  simp[ef,e1,e2]
 rw[Zde,h2,h1];simp only[iteF];rw[Zde,Zde];cases ρ v<;>cases eneg hi<;>simp
theorem Zmg (hi:Nat):eflip hi (eneg hi)%2=0:=by
 unfold eflip eneg;rcases Nat.mod_two_eq_zero_or_one hi with h|h
 . simp[h]
 . simp[h,Zna]
theorem Zj6 {lo hi:Nat}{b:Bool}(h:lo≠hi):eflip lo b≠eflip hi b:=by
 unfold eflip;cases b
 . simpa using h
 . simp only[if_true];intro e;have:=congrArg enot e;rw[Zoz,Zoz] at this;exact h this
theorem Zd7 {n:Nat}{lev:Nat->Nat}{N:Nat->Option BN}{e:Nat}{b:Bool}:lvE n lev N (eflip e b)=lvE n lev N e:=by unfold lvE;rw[Zc5]
end
def Zgl (d:Zag)(v:Int):Int:=if 0<=v/\v<d.level.length then (levN d v.toNat:Nat) else -1
theorem Ztn (d:Zag)(v:Nat):Zgl d v=d.levelOf v:=by
 unfold Zgl Zag.levelOf levN
 by_cases h:v<d.level.length
 . rw[if_pos ⟨by omega,by omega⟩,if_pos h];rfl
 . rw[if_neg (by omega),if_neg h]
theorem Zk1 {o:Own}{w:World}{sb:Nat}{d:Zag}{s:Za7}(h:Zap o w sb d s)(v:Int)(hv:v<0) :
 Calls prog 185 #[.pointer (some ⟨s.lb,0,none⟩),.int .i64 v] w fun x w'=>x=.returned (.int .i64 (-1))/\w=w':=by
 clear h
 go_enter func185,ntmps185
 go_wp2_with fail;go_ret;exact⟨rfl,rfl⟩
theorem Zl7 {o:Own}{w:World}{sb:Nat}{d:Zag}{s:Za7}(h:Zap o w sb d s)(v:Int)(hv:v<0) :
 Calls prog 136 #[.pointer (some ⟨sb,0,none⟩),.int .i64 v] w fun x w'=>x=.returned (.int .i64 (-1))/\w=w':=by
 obtain⟨c0,c1,c2,c3,c4,f0⟩:=cells5 h.blk;have HC:=Hd (Zk1 h v hv);clear h hv
 go_enter func136,ntmps136
 go_wp2_with fail;refine HC.out.mono ?_;rintro x w' ⟨rfl,rfl⟩;go_wp2_with fail;go_ret;exact⟨rfl,rfl⟩
theorem Zic {o:Own}{w:World}{sb:Nat}{d:Zag}{s:Za7}(h:Zap o w sb d s)(v:Int)(hbig:d.level.length<1000000) :
 Calls prog 136 #[.pointer (some ⟨sb,0,none⟩),.int .i64 v] w fun x w'=>x=.returned (.int .i64 (Zgl d v))/\w=w':=by
 by_cases h0:v<0
 .
  have e:Zgl d v = -1:=by unfold Zgl;rw[if_neg (by omega)]
  rw[e];exact Zl7 h v h0
 . obtain⟨n,rfl⟩:=Int.eq_ofNat_of_zero_le (by omega:0<=v);have e:=Ztn d n;rw[e];exact Zcf h n hbig
end Go.Proofs.YtkbegdkpboklpaaGreat
