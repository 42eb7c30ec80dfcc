/- Several texts in one file: contracts of the program's functions and what follows from them. -/
import Derived.Test.YtgmbklaolcmljaaGreatP1
import Derived.Laws.IdiomCopy
import Derived.Deep.Cut
import Derived.Deep.CutRange
import Derived.Deep.DeepCutAuto
set_option linter.unusedSimpArgs false
set_option linter.unusedVariables false
set_option linter.unusedSectionVars false
set_option linter.unnecessarySimpa false
set_option maxRecDepth 100000
set_option maxHeartbeats 8000000
namespace Go.Proofs.YtgmbklaolcmljaaGreat
open Go.Proofs.Tryz
open Go.RowKit
section
variable {P:Program}{ops:Array Oper}{S:World->Prop}{Q:Exit->Act->World->Prop}{last:Bool}
theorem Zbq {o:Oper}{r:List (Option Oper×Bool)}{a:Act}{w:World}{f:FuncId}{args:Array Value}{R:Value->World->Prop}(hg:o.guard=none)
 (he:(execOp a.eval o).run P w=.ok (.enter f args) w) (hc:Calls P f args w fun e w'=>∃ v,e=.returned v/\S w'/\R v w')
 (h:∀ v w',S w'->R v w'->Zcm P ops Q S last r (a.put o.dst v) w'):Zcm P ops Q S last ((some o,true)::r) a w:=by
 have hw:Region.wanted o (yielded ops a.tmps)=true:=by simp[Region.wanted,hg]
 unfold Zcm;simp only[hw,if_true,Oper.wp,he,Oper.upon];exact hc.mono fun e w' ⟨v,h1,h2,h3⟩=>by subst h1;exact⟨.inr h2,h v w' h2 h3⟩
end
theorem Zpo (o:Own)(w:World)(hlt:Zah o w):RowR (Zcf o w.heap.size .entries) (w.alloc (.cells (madeCells #[.int .i64 0,.int .i64 0,.int .i64 0,.int .i64 0,.int .i64 0,.bool false] (4096*6)) 264)) .entries 264 6 (.slice (some ⟨w.heap.size,0,none⟩) 4096 4096) 4096 ((List.replicate 4096 ent0).flatMap entV):=by
 refine⟨by rw[Za7 entV 6 Zbo,List.length_replicate],.inr ⟨w.heap.size,4096,_,rfl,Za6 _ _ _,heap_alloc_new w _,Nat.le_refl _,by decide,by rw[size_madeCells];exact Nat.le_refl _,?_⟩⟩;rw[Zjr,List.take_of_length_le];rw[Za7 entV 6 Zbo,List.length_replicate];exact Nat.le_refl _
theorem Zmo (F:Phi)(n:Nat):Zv4 F (List.replicate n ent0):=by
 intro i hi;have:Zew (List.replicate n ent0) i=ent0:=by
  simp only[Zew,List.getD,List.getElem?_replicate];split<;>rfl
 rw[this] at hi;cases hi
theorem Zlg (w:World):(Instr.makeSlice 191 (.int .i64 4096) (.int .i64 4096)).run prog w=.ok (.slice (some ⟨w.heap.size,0,none⟩) 4096 4096) (w.alloc (.cells (madeCells #[.int .i64 0,.int .i64 0,.int .i64 0,.int .i64 0,.int .i64 0,.bool false] (4096*6)) 264)):=by
 have s:=Zpz;cases hi:prog.info? 264 with
 | none=>rw[hi] at s;cases s
 | some i =>
   rw[hi] at s;simp only[Option.map_some,Option.some.injEq,Prod.mk.injEq] at s;obtain⟨hz,hs,hb⟩:=s;have:=run_make (P:=prog) w 191 264 i _ underlying191 hi hz .i64 .i64 4096 4096 (by decide) (by decide) (by rw[hb];decide) (by decide);rw[hs] at this;exact this
structure Zdh (o:Own)(w:World)(mb ge cap:Nat)(l:List EntD)(asked found:Int)(F:Phi):Prop where
 own:o mb=some .memo
 blk:w.heap[mb]?=some (.cells #[.int .i64 4096,.slice (some ⟨ge,0,none⟩) 4096 cap,.int .i64 asked,.int .i64 found] 193 (0,0))
 len:l.length=4096
 row:RowR o w .entries 264 6 (.slice (some ⟨ge,0,none⟩) 4096 cap) 4096 (l.flatMap entV)
 ok:Zv4 F l
theorem Zdh.is {o:Own}{w:World}{mb ge cap:Nat}{l:List EntD}{asked found:Int}{F:Phi}(h:Zdh o w mb ge cap l asked found F):Zce o w mb F:=⟨h.own,_,_,_,h.blk,.inr ⟨ge,cap,l,rfl,h.len,h.row,h.ok⟩⟩
theorem Zn3 {o:Own}{w:World}{mb:Nat}{asked found:Int}{F:Phi}(hown:o mb=some .memo)(hlt:Zah o w)(hmb:w.heap[mb]?=some (.cells #[.int .i64 4096,.slice none 0 0,.int .i64 asked,.int .i64 found] 193 (0,0)))(W:World)
 (hW:W=(w.setCell ⟨mb,1,none⟩ (.slice (some ⟨w.heap.size,0,none⟩) 4096 4096)).alloc (.cells (madeCells #[.int .i64 0,.int .i64 0,.int .i64 0,.int .i64 0,.int .i64 0,.bool false] 24576) 264)) :
 ∃ o',Zdh o' W mb w.heap.size 4096 (List.replicate 4096 ent0) asked found F/\Chg (fun r=>r=.memo\/r=.entries) o o' w W/\Zah o' W:=by
 have g3:mb<w.heap.size:=hlt _ _ hown;obtain⟨w1,h1⟩:∃ w1,w1=w.setCell ⟨mb,1,none⟩ (.slice (some ⟨w.heap.size,0,none⟩) 4096 4096):=⟨_,rfl⟩;have hz:w1.heap.size=w.heap.size:=by rw[h1];simp[World.setCell]
 have g1:Chg (fun r=>r=.memo\/r=.entries) o o w w1:=by rw[h1];exact Chg.setCell (R:=fun r=>r=.memo\/r=.entries) (p:=⟨mb,1,none⟩) (Chg.refl _ o w) hown (.inl rfl) _
 have g0:Zah o w1:=hlt.mono g1.size;have g2:w1.heap[mb]?=some (.cells #[.int .i64 4096,.slice (some ⟨w.heap.size,0,none⟩) 4096 4096,.int .i64 asked,.int .i64 found] 193 (0,0)):=by rw[h1];exact Zae hmb _
 have hr:=Zpo o w1 g0;rw[<- h1] at hW;rw[hz] at hr;subst hW;refine⟨Zcf o w.heap.size .entries,⟨Zcx hlt (Nat.le_refl _) hown,?_,List.length_replicate,hr,Zmo F _⟩,?_,?_⟩
 . exact(Go.heap_alloc_old w1 _ (by omega)).trans g2
 . rw[<- hz];exact g1.allocR g0 _ (.inr rfl)
 . rw[<- hz];exact g0.allocR _ _
theorem Zdh.below {o:Own}{w w':World}{mb ge cap:Nat}{l:List EntD}{asked found:Int}{F:Phi}(h:Zdh o w mb ge cap l asked found F)(hlt:Zah o w)(hb:Below w.heap.size w w'):Zdh o w' mb ge cap l asked found F :=
 ⟨h.own,(hb.block mb (hlt _ _ h.own)).trans h.blk,h.len,h.row.below hlt hb,h.ok⟩
theorem Zm2 {o:Own}{w:World}{mb ge cap:Nat}{l:List EntD}{asked found:Int}{F:Phi}(h:Zdh o w mb ge cap l asked found F)(op:Int)(a b c:Nat) :
 Calls prog 183 #[.pointer (some ⟨mb,0,none⟩),.agg #[.int .i64 op,.int .i64 a,.int .i64 b,.int .i64 c]] w.drew fun x w'=>∃ i,i<4096/\x=.returned (.pointer (some ⟨ge,i*6,none⟩))/\Below w.drew.heap.size w.drew w' :=
 Zqj mb ge cap op a b c w.drew (cells4 (w:=w.drew) h.blk).2.1
theorem Zdh.stored {o:Own}{w:World}{mb ge cap:Nat}{l:List EntD}{asked found:Int}{F:Phi}(h:Zdh o w mb ge cap l asked found F){k:Nat}(hk:k<4096){E:EntD}(hE:F E.op E.a E.b E.c E.r):Zdh o (set6 w ge k E) mb ge cap (l.set k E) asked found F:=by
 have hg:=h.row.owner;have g0:mb≠ge:=fun e=>by subst e;have:=h.own;rw[hg] at this;cases this
 refine⟨h.own,(Zyu g0).trans h.blk,by rw[List.length_set];exact h.len,?_,Zw9 h.ok k hE⟩;have hr:=h.row;rw[show 4096=l.length from h.len.symm] at hr;have:=Zyp (m:=l.length) hr (by rw[h.len];exact hk) E;rw[h.len] at this;exact this
theorem Yeo (w:World)(a:Option Addr)(n c:Nat):(binOp .eql 191 (.slice a n c) (.slice none 0 0)).run prog w=.ok (.bool a.isNone) w:=by
 have hd:Op.maxDepth=9999+1:=rfl;have h:(Op.equal 191 (.slice a n c) (.slice none 0 0)).run prog w=.ok a.isNone w:=by
  unfold Op.equal;rw[hd];unfold Op.equalIn;simp only[Sem.run_bind,run_underlying underlying191,Result.andThen_ok];cases a<;>simp
 simp only[binOp];simp[h]
theorem Yay (o:Own)(mb:Nat)(F:Phi)(op:Int)(a b c r:Nat)(w:World)(h:Zce o w mb F)(hlt:Zah o w)(hF:F op a b c r) :
 Calls prog 159 #[.pointer (some ⟨mb,0,none⟩),.int .i64 op,.int .i64 a,.int .i64 b,.int .i64 c,.int .i64 r] w fun x w'=>x=.returned (.tuple #[])/\∃ o',Zce o' w' mb F/\Chg (fun r=>r=.memo\/r=.entries) o o' w w'/\Zah o' w':=by
 obtain⟨ve,asked,found,gt,hv⟩:=h.ex;obtain⟨c0,c1,c2,c3,f0⟩:=cells4 gt;have lmb:mb<w.heap.size:=Zab c0;have gA:=Hd hlt;have gq:=Hd gt;have gb:=Hd h.own;have HV:=Hd hv;have HF:=Hd hF;have gz:=Hd Zlg;clear h hlt gt hv hF;rcases HV.out with rfl|⟨ge,cap,l,rfl,hl,gr,gv⟩
 ·have gB:=Zlg w;have gp:(binOp .eql 191 (.slice none 0 0) (.slice none 0 0)).run prog w=.ok (.bool true) w:=Yeo w none 0 0;have HM:=Hd (Zn3 (F:=F) gb.out gA.out gq.out)
  go_enter func159,ntmps159
  go_upto_region 3 with fail;obtain⟨W1,g5⟩:∃ W1,W1=(w.setCell ⟨mb,1,none⟩ (.slice (some ⟨w.heap.size,0,none⟩) 4096 4096)).alloc (.cells (madeCells #[.int .i64 0,.int .i64 0,.int .i64 0,.int .i64 0,.int .i64 0,.bool false] 24576) 264):=⟨_,rfl⟩;rw[<- g5];obtain⟨o1,gw,gy,gx⟩:=HM.out W1 g5;have g6:=Hd gw;have ga:=Hd gy;have g7:=Hd gx;clear gw gy gx g5 HM gB gp c0 c1 c2 c3 f0 lmb HV gq gb gz;obtain⟨d0,d1,d2,d3,g0⟩:=cells4 g6.out.blk;have lmb1:mb<W1.heap.size:=Zab d0;go_upto_region 4 with fail;obtain⟨bx,g9⟩:∃ bx,bx=W1.heap.size:=⟨_,rfl⟩;obtain⟨W2,g4⟩:∃ W2,W2=W1.alloc (.cells #[.int .i64 op,.int .i64 a,.int .i64 b,.int .i64 c] 260):=⟨_,rfl⟩;have g3:Below W1.heap.size W1 W2:=by rw[g4];exact Zaf _ _
  have g8:W2.heap[bx]?=some (.cells #[.int .i64 op,.int .i64 a,.int .i64 b,.int .i64 c] 260 (0,0)):=by rw[g4,g9];exact heap_alloc_new W1 _
  rw[<- g4,<- g9];have gd:=g6.out.below g7.out g3;have gk:=ga.out.trans (Chg.of_below g3 (fun r=>r=.memo\/r=.entries) _);have gh:=g7.out.mono g3.size;have gm:=Hd gd;have gu:=Hd gk;have gn:=Hd gh;have go:=Hd g8;clear gd gk gh g3 g4 g9 g6 ga g7 d0 d1 d2 d3 g0 lmb1;obtain⟨k0,k1,k2,k3,fk⟩:=cells4 g8;clear g8;refine Zam (fun W:World=>W.cell? ⟨bx,0,none⟩=some (.int .i64 op)/\W.cell? ⟨bx,1,none⟩=some (.int .i64 a)/\W.cell? ⟨bx,2,none⟩=some (.int .i64 b)/\W.cell? ⟨bx,3,none⟩=some (.int .i64 c)) true 7
   [(0,false),(1,false),(3,false),(4,false),(5,false),(2,true),(6,false),(7,true)] (by kernel_rfl) (by kernel_rfl) ⟨k0,k1,k2,k3⟩ ?_
  simp only[planned,Zdx]
  iterate 5
   refine Zao rfl ?_;apply Exists.intro;refine⟨fun w' hw=>?_,?_⟩
   . obtain⟨q0,q1,q2,q3⟩:=hw;go_simp;rfl
   simp only[Zai]
  refine Zbq (R:=fun v w'=>∃ i,i<4096/\v=.pointer (some ⟨w.heap.size,i*6,none⟩)/\Below W2.drew.heap.size W2.drew w') rfl (by go_simp) ((Zm2 gm.out op a b c).mono (fun e w' he=>?_)) ?_
  . obtain⟨i,hi,rfl,hb⟩:=he;obtain⟨j0,j1,j2,j3,_⟩:=cells4 ((hb.block bx (Array.getElem?_eq_some_iff.1 go.out).1).trans go.out);exact⟨_,rfl,⟨j0,j1,j2,j3⟩,i,hi,rfl,hb⟩
  rintro v w3-⟨i,hi,rfl,g2⟩;simp only[Zai];have g2:Below W2.heap.size W2 w3:=(Zag W2 1).trans g2;have g1:=gm.out.below gn.out g2;have gj:=gu.out.trans (Chg.of_below g2 (fun r=>r=.memo\/r=.entries) _);have gg:=gn.out.mono g2.size;obtain⟨n0,n1,n2,n3,n4,n5⟩:=Znq g1.row g1.len hi
  iterate 1
   refine Zao rfl ?_;apply Exists.intro;refine⟨fun w' hw=>?_,?_⟩
   . obtain⟨q0,q1,q2,q3⟩:=hw;go_simp;rfl
   simp only[Zai]
  refine Zdl rfl rfl (Zho (fun j=>by have:=g1.row.frozen j;exact this) n0 n1 n2 n3 n4 n5 ⟨op,a,b,c,r,true⟩) ?_;simp only[Zai];have gc:=(g1.stored hi (E:=⟨op,a,b,c,r,true⟩) HF.out).is;have gi:=Zto (k:=i) (E:=⟨op,a,b,c,r,true⟩) gj g1.row.owner (.inr rfl);have gf:Zah o1 (set6 w3 w.heap.size i ⟨op,a,b,c,r,true⟩):=gg.mono (by simp[set6,World.setCell]);obtain⟨WF,gl⟩:∃ WF,WF=set6 w3 w.heap.size i ⟨op,a,b,c,r,true⟩:=⟨_,rfl⟩;rw[<- gl] at gc gi gf ⊢;clear n0 n1 n2 n3 n4 n5 g1 gj gg g2 k0 k1 k2 k3 fk gl;go_wp2_with fail;refine bodyPost_end (results_none rfl _ _ _) rfl ?_;exact⟨rfl,o1,gc,gi,gf⟩
 ·have g6:Hid (Zdh o w mb ge cap l asked found F):=(Hd ⟨gb.out,gq.out,hl,gr,gv⟩);have gp:(binOp .eql 191 (.slice (some ⟨ge,0,none⟩) 4096 cap) (.slice none 0 0)).run prog w=.ok (.bool false) w:=Yeo w _ _ _;clear hl gr gv
  go_enter func159,ntmps159
  go_upto_region 3 with fail;obtain⟨W1,g5⟩:∃ W1,W1=w:=⟨_,rfl⟩;have ga:Hid (Chg (fun r=>r=.memo\/r=.entries) o o w W1):=Hd (g5 ▸ Chg.refl _ _ _);have g7:Hid (Zah o W1):=Hd (g5 ▸ gA.out);rw[<- g5] at g6;rw[<- g5];obtain⟨o1,gs⟩:∃ o1,o1=o:=⟨_,rfl⟩;rw[<- gs] at g6 g7;have ga:Hid (Chg (fun r=>r=.memo\/r=.entries) o o1 w W1):=by rw[gs];exact ga
  clear g5 gs gp c0 c1 c2 c3 f0 lmb HV gq gb gz;obtain⟨d0,d1,d2,d3,g0⟩:=cells4 g6.out.blk;have lmb1:mb<W1.heap.size:=Zab d0;go_upto_region 4 with fail;obtain⟨bx,g9⟩:∃ bx,bx=W1.heap.size:=⟨_,rfl⟩;obtain⟨W2,g4⟩:∃ W2,W2=W1.alloc (.cells #[.int .i64 op,.int .i64 a,.int .i64 b,.int .i64 c] 260):=⟨_,rfl⟩;have g3:Below W1.heap.size W1 W2:=by rw[g4];exact Zaf _ _
  have g8:W2.heap[bx]?=some (.cells #[.int .i64 op,.int .i64 a,.int .i64 b,.int .i64 c] 260 (0,0)):=by rw[g4,g9];exact heap_alloc_new W1 _
  rw[<- g4,<- g9];have gd:=g6.out.below g7.out g3;have gk:=ga.out.trans (Chg.of_below g3 (fun r=>r=.memo\/r=.entries) _);have gh:=g7.out.mono g3.size;have gm:=Hd gd;have gu:=Hd gk;have gn:=Hd gh;have go:=Hd g8;clear gd gk gh g3 g4 g9 g6 ga g7 d0 d1 d2 d3 g0 lmb1;obtain⟨k0,k1,k2,k3,fk⟩:=cells4 g8;clear g8;refine Zam (fun W:World=>W.cell? ⟨bx,0,none⟩=some (.int .i64 op)/\W.cell? ⟨bx,1,none⟩=some (.int .i64 a)/\W.cell? ⟨bx,2,none⟩=some (.int .i64 b)/\W.cell? ⟨bx,3,none⟩=some (.int .i64 c)) true 7
   [(0,false),(1,false),(3,false),(4,false),(5,false),(2,true),(6,false),(7,true)] (by kernel_rfl) (by kernel_rfl) ⟨k0,k1,k2,k3⟩ ?_
  simp only[planned,Zdx]
  iterate 5
   refine Zao rfl ?_;apply Exists.intro;refine⟨fun w' hw=>?_,?_⟩
   . obtain⟨q0,q1,q2,q3⟩:=hw;go_simp;rfl
   simp only[Zai]
  refine Zbq (R:=fun v w'=>∃ i,i<4096/\v=.pointer (some ⟨ge,i*6,none⟩)/\Below W2.drew.heap.size W2.drew w') rfl (by go_simp) ((Zm2 gm.out op a b c).mono (fun e w' he=>?_)) ?_
  . obtain⟨i,hi,rfl,hb⟩:=he;obtain⟨j0,j1,j2,j3,_⟩:=cells4 ((hb.block bx (Array.getElem?_eq_some_iff.1 go.out).1).trans go.out);exact⟨_,rfl,⟨j0,j1,j2,j3⟩,i,hi,rfl,hb⟩
  rintro v w3-⟨i,hi,rfl,g2⟩;simp only[Zai];have g2:Below W2.heap.size W2 w3:=(Zag W2 1).trans g2;have g1:=gm.out.below gn.out g2;have gj:=gu.out.trans (Chg.of_below g2 (fun r=>r=.memo\/r=.entries) _);have gg:=gn.out.mono g2.size;obtain⟨n0,n1,n2,n3,n4,n5⟩:=Znq g1.row g1.len hi
  iterate 1
   refine Zao rfl ?_;apply Exists.intro;refine⟨fun w' hw=>?_,?_⟩
   . obtain⟨q0,q1,q2,q3⟩:=hw;go_simp;rfl
   simp only[Zai]
  refine Zdl rfl rfl (Zho (fun j=>by have:=g1.row.frozen j;exact this) n0 n1 n2 n3 n4 n5 ⟨op,a,b,c,r,true⟩) ?_;simp only[Zai];have gc:=(g1.stored hi (E:=⟨op,a,b,c,r,true⟩) HF.out).is;have gi:=Zto (k:=i) (E:=⟨op,a,b,c,r,true⟩) gj g1.row.owner (.inr rfl);have gf:Zah o1 (set6 w3 ge i ⟨op,a,b,c,r,true⟩):=gg.mono (by simp[set6,World.setCell]);obtain⟨WF,gl⟩:∃ WF,WF=set6 w3 ge i ⟨op,a,b,c,r,true⟩:=⟨_,rfl⟩;rw[<- gl] at gc gi gf ⊢;clear n0 n1 n2 n3 n4 n5 g1 gj gg g2 k0 k1 k2 k3 fk gl;go_wp2_with fail;refine bodyPost_end (results_none rfl _ _ _) rfl ?_;exact⟨rfl,o1,gc,gi,gf⟩
open Go.RowKit
theorem RowR.setCells {o:Own}{r:Role}{e:TypeId}{size n g m cap:Nat}(ys:List Value):∀ (w:World) (k:Nat) (xs:List Value),RowR o w r e size (.slice (some ⟨g,0,none⟩) m cap) n xs->k+ys.length<=xs.length ->
 RowR o (w.setCells g k ys) r e size (.slice (some ⟨g,0,none⟩) m cap) n (xs.take k++ys++xs.drop (k+ys.length)):=by
 induction ys with
 | nil=>intro w k xs h _;simpa [World.setCells] using h
 | cons y ys ih =>
   intro w k xs h hl;simp only[List.length_cons] at hl;have h1:=ih (w.setCell ⟨g,k,none⟩ y) (k+1) (xs.set k y) (h.stored k y) (by simp;omega);have e:(xs.set k y).take (k+1)++ys++(xs.set k y).drop (k+1+ys.length)=xs.take k++(y::ys)++xs.drop (k+(y::ys).length):=by
    have e1:(xs.set k y).take (k+1)=xs.take k++[y]:=by
     rw[List.set_eq_take_append_cons_drop,if_pos (by omega),List.take_append];simp;have:min k xs.length=k:=by omega
     rw[this];simp
     exact List.take_of_length_le (by simp;omega)
    have e2:(xs.set k y).drop (k+1+ys.length)=xs.drop (k+1+ys.length):=by
     rw[List.drop_set];rw[if_pos (by omega)]
    rw[e1,e2];simp[Nat.add_assoc,Nat.add_comm 1 ys.length]
   rw[e] at h1;exact h1
theorem Chg.setCells {R:Role->Prop}{o o':Own}{w0:World}{g:Nat}{r:Role}(hg:o' g=some r)(hR:R r)(ys:List Value):∀ (w:World) (k:Nat),Chg R o o' w0 w->Chg R o o' w0 (w.setCells g k ys):=by
 induction ys with
 | nil=>intro w k h;exact h
 | cons y ys ih=>intro w k h;exact ih _ _ (h.setCell (p:=⟨g,k,none⟩) hg hR y)
theorem Zj2 {g b:Nat}(hb:b≠g)(ys:List Value):∀ (w:World) (k:Nat),(w.setCells g k ys).heap[b]?=w.heap[b]?:=by
 induction ys with
 | nil=>intro w k;rfl
 | cons y ys ih=>intro w k;rw[World.setCells,ih];exact Zad (p:=⟨g,k,none⟩) hb y
theorem Yef (w:World):(zeroValue 264).run prog w=.ok (.agg #[.int .i64 0,.int .i64 0,.int .i64 0,.int .i64 0,.int .i64 0,.bool false]) w:=by
 have s:=Zpz;cases hi:prog.info? 264 with
 | none=>rw[hi] at s;cases s
 | some i =>
   rw[hi] at s;simp only[Option.map_some,Option.some.injEq,Prod.mk.injEq] at s;obtain⟨hz,hs,hb⟩:=s;simp[zeroValue,typeInfo,hi,hz]
theorem Ybr (n:Nat):(Builtin.zeroCells (Value.cells (.agg #[.int .i64 0,.int .i64 0,.int .i64 0,.int .i64 0,.int .i64 0,.bool false])) n).toList=(List.replicate n ent0).flatMap entV:=Zjr n
theorem Zof (w:World)(ty:TypeId)(ge cap n:Nat)(hc:∀ j,j<(n+1)*6->(w.cell? ⟨ge,j,none⟩).isSome=true)(hf:∀ j,w.frozen? ⟨ge,j,none⟩=false) :
 (Builtin.clear_ #[191] ty #[.slice (some ⟨ge,0,none⟩) (n+1) cap]).run prog w=.ok (.tuple #[]) (w.setCells ge 0 ((List.replicate (n+1) ent0).flatMap entV)):=by
 have g0:((List.replicate (n+1) ent0).flatMap entV).length=(n+1)*6:=by rw[Za7 entV 6 Zbo,List.length_replicate]
 have g1:=run_storeCells_cells (P:=prog) ge 0 ((List.replicate (n+1) ent0).flatMap entV) 0 w (fun j hj=>by rw[g0] at hj;simpa using hc j hj) (fun j _=>hf _) (fun v hv=>by
  rw[List.mem_flatMap] at hv;obtain⟨E,_,hv⟩:=hv;simp only[entV,List.mem_cons,List.not_mem_nil,or_false] at hv;rcases hv with rfl|rfl|rfl|rfl|rfl|rfl<;>rfl)
 unfold Builtin.clear_;simp only[List.getElem?_toArray,List.getElem?_cons_zero,Sem.run_bind,run_underlying underlying191,Result.andThen_ok,Yef,Ybr,g1];rfl
theorem Zqt (w:World)(ty:TypeId)(ge cap:Nat)(hc:∀ j,j<4096*6->(w.cell? ⟨ge,j,none⟩).isSome=true)(hf:∀ j,w.frozen? ⟨ge,j,none⟩=false) :
 (Builtin.clear_ #[191] ty #[.slice (some ⟨ge,0,none⟩) 4096 cap]).run prog w=.ok (.tuple #[]) (w.setCells ge 0 ((List.replicate 4096 ent0).flatMap entV)):=Zof w ty ge cap 4095 hc hf
theorem Zog (w:World)(ty:TypeId):(Builtin.clear_ #[191] ty #[.slice none 0 0]).run prog w=.ok (.tuple #[]) w:=by
 unfold Builtin.clear_;simp only[List.getElem?_toArray,List.getElem?_cons_zero,Sem.run_bind,run_underlying underlying191,Result.andThen_ok];rfl
theorem Zul (o:Own)(mb:Nat)(F G:Phi)(w:World)(h:Zce o w mb F)(hlt:Zah o w) :
 Calls prog 164 #[.pointer (some ⟨mb,0,none⟩)] w fun x w'=>x=.returned (.tuple #[])/\Zce o w' mb G/\Chg (· = .entries) o o w w'/\Zah o w':=by
 obtain⟨ve,asked,found,g3,hv⟩:=h.ex;have g1:=h.own;obtain⟨c0,c1,c2,c3,f0⟩:=cells4 g3;rcases hv with rfl|⟨ge,cap,l,rfl,hl,g0,g8⟩
 ·have hr:=Zog w 0;have HF:=Hd (show Zce o w mb G from ⟨h.own,_,_,_,g3,.inl rfl⟩);have HL:=Hd hlt;clear h hlt g3 g1
  go_enter func164,ntmps164
  go_wp2_with fail;refine bodyPost_end (results_none rfl _ _ _) rfl ?_;exact⟨rfl,HF.out,Chg.refl _ _ _,HL.out⟩
 ·have hg:=g0.owner;have g7:mb≠ge:=fun e=>by subst e;rw[hg] at g1;cases g1
  have g2:(l.flatMap entV).length=4096*6:=by rw[Za7 entV 6 Zbo,hl]
  have hr:=Zqt w 0 ge cap (fun j hj=>by rw[g0.cell j (by rw[g2];exact hj),List.getElem?_eq_getElem (by rw[g2];exact hj)];rfl) g0.frozen;obtain⟨W,hW⟩:∃ W,W=w.setCells ge 0 ((List.replicate 4096 ent0).flatMap entV):=⟨_,rfl⟩;rw[<- hW] at hr;have g5:((List.replicate 4096 ent0).flatMap entV).length=4096*6:=by rw[Za7 entV 6 Zbo,List.length_replicate]
  have g4:RowR o W .entries 264 6 (.slice (some ⟨ge,0,none⟩) 4096 cap) 4096 ((List.replicate 4096 ent0).flatMap entV):=by
   have:=RowR.setCells ((List.replicate 4096 ent0).flatMap entV) w 0 _ g0 (by rw[g5,g2];omega);rw[List.take_zero,List.nil_append,Nat.zero_add,List.drop_of_length_le (by rw[g5,g2];exact Nat.le_refl _),List.append_nil,<- hW] at this;exact this
  have g6:Chg (· = .entries) o o w W:=by rw[hW];exact Chg.setCells (R:=(· = .entries)) hg rfl _ _ _ (Chg.refl _ _ _)
  have HF:=Hd (show Zce o W mb G from ⟨g1,_,_,_,(by rw[hW];exact(Zj2 g7 _ _ _).trans g3),.inr ⟨ge,cap,_,rfl,List.length_replicate,g4,Zmo G _⟩⟩);have HL:=Hd (hlt.mono g6.size);have HC:=Hd g6;clear h hlt g3 g1 hl g0 g8 hg g2 g5 g4 g6 hW g7
  go_enter func164,ntmps164
  go_wp2_with fail;refine bodyPost_end (results_none rfl _ _ _) rfl ?_;exact⟨rfl,HF.out,HC.out,HL.out⟩
open Go.RowKit
theorem Yan (o:Own)(F:Phi)(w:World)(hlt:Zah o w) :
 Calls prog 61 #[.int .i64 4096] w fun x w'=>∃ mb o',x=.returned (.pointer (some ⟨mb,0,none⟩))/\Zce o' w' mb F/\Chg (· = .memo) o o' w w'/\Zah o' w'/\w.heap.size<=mb:=by
 have HL:=Hd hlt;clear hlt
 go_enter func61,ntmps61
 go_wp2_with fail;go_ret;exact⟨w.heap.size,Zcf o w.heap.size .memo,rfl,⟨Za6 _ _ _,_,_,_,heap_alloc_new w _,.inl rfl⟩,(Chg.refl _ o w).allocR HL.out _ rfl,HL.out.allocR _ _,Nat.le_refl _⟩
theorem Zc4 {P:Program}(w:World)(T:TypeId):(Instr.makeMap T none).run P w=.ok (.map (some w.heap.size)) (w.alloc (.map #[] 0)):=rfl
theorem Yap (o:Own)(v:Nat)(w:World)(hlt:Zah o w) :
 Calls prog 122 #[] w fun x w'=>∃ t o',x=.returned (.pointer (some ⟨t,0,none⟩))/\Zc2 o' w' v t (fun _=>none)/\Chg (fun r=>r=.tab v\/r=.tmap v) o o' w w'/\Zah o' w'/\w.heap.size<=t:=by
 have HL:=Hd hlt;have hm:=Zc4 (P:=prog) w 232;clear hlt
 go_enter func122,ntmps122
 go_wp2_with fail;go_ret;have g0:=HL.out.allocR (.map #[] 0) (.tmap v);have g4:=((Chg.refl (fun r=>r=.tab v\/r=.tmap v) o w).allocR (r:=.tmap v) HL.out (.map #[] 0) (.inr rfl));have g2:=g0.allocR (.cells #[.map (some w.heap.size)] 234) (.tab v);have g3:=g4.allocR (r:=.tab v) g0 (.cells #[.map (some w.heap.size)] 234) (.inl rfl);have hz:(w.alloc (.map #[] 0)).heap.size=w.heap.size+1:=by simp
 have g1:w.heap.size<(w.alloc (.map #[] 0)).heap.size:=by rw[hz];omega
 refine⟨w.heap.size+1,_,rfl,⟨by rw[<- hz];exact Za6 _ _ _,w.heap.size,[],by rw[<- hz];exact heap_alloc_new _ _,Zcx g0 (Nat.le_refl _) (Za6 _ _ _),⟨⟨#[],0,(Go.heap_alloc_old _ _ g1).trans (heap_alloc_new w _),rfl,by simp,by simp⟩,by simp⟩,fun k=>rfl⟩,g3,g2,by omega⟩
open Go.RowKit
section
variable {P:Program}{S:World->Prop}{Q:Exit->Act->World->Prop}{m:Nat}
structure Left (P:Program)(l:List Oper)(Q:Exit->Act->World->Prop)(S:World->Prop)(m f:Nat)(L:Array Bool)(a:Act)(w:World):Prop where
 goes:Closed l.toArray L->S w->Zlw P l.toArray (NP Q) S m f L a w
theorem Ze9 {id:Nat}{a:Act}{w:World}{l:List Oper}(S:World->Prop)(m:Nat)(hm:P.follows .mixedOrders=true)(hS:S w.drew)
 (h:Left P l Q S m l.length (Array.replicate l.toArray.size false) a w.drew):(Code.region id l.toArray true).wp P Q a w :=
 Zt7 (wp_region_any hm (Zhi _ _ _ _ (h.goes (Zez _) hS)))
theorem Zxq {l:List Oper}{f:Nat}{L:Array Bool}{a:Act}{w:World}(i:Nat)(o:Oper)(v:Value)(hi:l[i]?=some o)
 (hB:(Region.noSelect l.toArray&&(Region.ready .any l.toArray L).contains i&&Region.free .any l.toArray L i&&(decide (l.toArray.size<=m)||reaches l.toArray l.toArray.size i m))=true)
 (hy:∀ w,S w->YieldsIf P l.toArray S o v a) (h:Left P l Q S m f (L.setIfInBounds i true) (a.put o.dst v) w):Left P l Q S m (f+1) L a w:=by
 refine⟨fun hc hS=>?_⟩;simp only[Bool.and_eq_true] at hB;obtain⟨⟨⟨hs,hr⟩,hf⟩,hm⟩:=hB;have g1:l.toArray[i]?=some o:=by simpa using hi
 have g0:i∈Region.ready .any l.toArray L:=by simpa using hr
 exact Zgx g1 hs (fun _ _ _ _ _ h=>h) hm f L a w hc (Region.free_spec g1 hf) g0 (hy w hS) hS (h.goes (hc.set g0) hS)
theorem Zbf {l:List Oper}{f:Nat}{L:Array Bool}{a:Act}{w:World}(i:Nat){o:Oper}(hi:l[i]?=some o)(hg:o.guard=none)
 (hB:(Region.noSelect l.toArray&&(Region.ready .any l.toArray L).contains i&&Region.free .any l.toArray L i&&(decide (l.toArray.size<=m)||reaches l.toArray l.toArray.size i m))=true)
 (h:∃ v,(∀ w,S w->(execOp a.eval o).run P w=.ok (.value v) w)/\Left P l Q S m f (L.setIfInBounds i true) (a.put o.dst v) w):Left P l Q S m (f+1) L a w:=by
 obtain⟨v,h1,h2⟩:=h;exact Zxq i o v hi hB (fun w _=>.inl ⟨by simp[Region.wanted,hg],h1⟩) h2
theorem Zd4 {l:List Oper}{f:Nat}{L:Array Bool}{a:Act}{w:World}(is:List Nat)(hr:(decide (Region.ready .any l.toArray L=is) && !is.isEmpty)=true)
 (h:∀ i∈is,S w->∀ o,l[i]?=some o->Region.wanted o (yielded l.toArray a.tmps)=true/\o.wp P a w (fun a' w'=>S w'/\Left P l Q S m f (L.setIfInBounds i true) a' w') (NP Q)):Left P l Q S m (f+1) L a w:=by
 refine⟨fun hc hS=>?_⟩;simp only[Bool.and_eq_true,decide_eq_true_eq] at hr;obtain⟨hr,g1⟩:=hr;refine⟨fun h0=>(by rw[h0] at hr;subst hr;simp at g1),fun i hi=>?_⟩;have g2:i∈is:=by rw[<- hr];exact hi
 obtain⟨_,o,ho,_⟩:=mem_ready.1 hi;obtain⟨hw,g0⟩:=h i g2 hS o (by simpa using ho);unfold wpOp;rw[ho];simp only[hw,if_true];left;refine Oper.wp_mono ?_ g0;intro a' w' ⟨h1,h2⟩;exact⟨.inr h1,h2.goes (hc.set hi) h1⟩
theorem Zka {l:List Oper}{L:Array Bool}{a:Act}{w:World}(hr:(Region.ready .any l.toArray L).isEmpty=true)(h:Q .normal a w):Left P l Q S m 0 L a w :=
 ⟨fun _ _=>⟨by simpa [List.isEmpty_iff] using hr,h⟩⟩
theorem Zcb {o:Oper}{a:Act}{w w':World}{v:Value}{K:Act->World->Prop}{Q:Exit->Act->World->Prop}(he:(execOp a.eval o).run P w=.ok (.value v) w')(h:K (a.put o.dst v) w'):o.wp P a w K Q:=by
 unfold Oper.wp;rw[he];exact h
end
open Go.RowKit
def pool0 (room:Nat):Zak:=⟨room,[rn0],[false],[],0⟩
abbrev Zbg:Obj:=.cells #[.int .i64 0,.int .i64 0,.int .i64 0,.int .i64 0,.int .i64 0] 236
abbrev Zbh:Obj:=.cells #[.bool false] 4
theorem Zth {o:Own}{w:World}{pb gs gt room:Nat}(hr:room<=1048576)(hop:o pb=some .pool)(hos:o gs=some .slots)(hot:o gt=some .taken)
 (hpb:w.heap[pb]?=some (.cells #[.int .i64 room,.slice (some ⟨gs,0,none⟩) 1 1,.slice (some ⟨gt,0,none⟩) 1 1,.slice none 0 0,.int .i64 0] 231 (0,0)))
 (hs:w.heap[gs]?=some Zbg) (ht:w.heap[gt]?=some Zbh):Zap o w pb (pool0 room):=by
 refine⟨hop,⟨_,_,_,hpb,⟨rfl,.inr ⟨gs,1,_,rfl,hos,hs,Nat.le_refl _,by decide,by decide,rfl⟩⟩,⟨rfl,.inr ⟨gt,1,_,rfl,hot,ht,Nat.le_refl _,by decide,by decide,rfl⟩⟩,RowR.nil _ _ _ _ _⟩,rfl,hr,by simp[pool0],rfl,by simp[pool0],?_,rfl,by simp[pool0],by simp[pool0],?_⟩
 ·intro i hi;have:(pool0 room).tk i=false:=by
   cases i<;>rfl
  rw[this] at hi;cases hi
 . simp[pool0,Zar,Zak.tk]
theorem Zu7:madeCells (Value.cells (.agg #[.int .i64 0,.int .i64 0,.int .i64 0,.int .i64 0,.int .i64 0])) (Int.toNat 1*5)=#[.int .i64 0,.int .i64 0,.int .i64 0,.int .i64 0,.int .i64 0]:=by kernel_rfl
theorem Zu8:madeCells (Value.cells (.bool false)) (Int.toNat 1*1)=#[.bool false]:=by kernel_rfl
theorem Zoh (w:World):(Instr.makeSlice 229 (.int .i64 1) (.int .i64 1)).run prog w=.ok (.slice (some ⟨w.heap.size,0,none⟩) 1 1) (w.alloc Zbg):=by
 have s:=Zj9;cases hi:prog.info? 236 with
 | none=>rw[hi] at s;cases s
 | some i =>
   rw[hi] at s;simp only[Option.map_some,Option.some.injEq,Prod.mk.injEq] at s;obtain⟨hz,hs,hb⟩:=s;have:=run_make (P:=prog) w 229 236 i _ underlying229 hi hz .i64 .i64 1 1 (by decide) (by decide) (by rw[hb];decide) (by decide);rw[hs,Zu7] at this;exact this
theorem Zoi (w:World):(Instr.makeSlice 54 (.int .i64 1) (.int .i64 1)).run prog w=.ok (.slice (some ⟨w.heap.size,0,none⟩) 1 1) (w.alloc Zbh):=by
 have s:=Znz;cases hi:prog.info? 4 with
 | none=>rw[hi] at s;cases s
 | some i =>
   rw[hi] at s;simp only[Option.map_some,Option.some.injEq,Prod.mk.injEq] at s;obtain⟨hz,hs,hb⟩:=s;have:=run_make (P:=prog) w 54 4 i _ underlying54 hi hz .i64 .i64 1 1 (by decide) (by decide) (by rw[hb];decide) (by decide);rw[hs,Zu8] at this;exact this
abbrev NewR (r:Role):Prop:=r=.pool\/r=.slots\/r=.taken
theorem made2 {o:Own}{w:World}(hlt:Zah o w)(A B C:Obj)(ra rb:Role)(h1:NewR ra)(h2:NewR rb) :
 ∃ o',o' w.heap.size=some ra/\o' (w.heap.size+1)=some rb/\o' (w.heap.size+2)=some .pool/\Chg NewR o o' w (((w.alloc A).alloc B).alloc C)/\Zah o' (((w.alloc A).alloc B).alloc C) /\
  (((w.alloc A).alloc B).alloc C).heap[w.heap.size]?=some A/\(((w.alloc A).alloc B).alloc C).heap[w.heap.size+1]?=some B/\(((w.alloc A).alloc B).alloc C).heap[w.heap.size+2]?=some C:=by
 have z1:(w.alloc A).heap.size=w.heap.size+1:=by simp
 have z2:((w.alloc A).alloc B).heap.size=w.heap.size+2:=by simp
 have l1:=hlt.allocR A ra;have c1:=(Chg.refl NewR o w).allocR hlt A h1;have l2:=l1.allocR B rb;have c2:=c1.allocR l1 B h2;have l3:=l2.allocR C .pool;have c3:=c2.allocR l2 C (show NewR .pool from .inl rfl);refine⟨_,?_,?_,?_,c3,l3,?_,?_,?_⟩
 . exact Zcx l2 (Nat.le_refl _) (Zcx l1 (Nat.le_refl _) (Za6 _ _ _))
 . rw[<- z1];exact Zcx l2 (Nat.le_refl _) (Za6 _ _ _)
 . rw[<- z2];exact Za6 _ _ _
 . rw[Go.heap_alloc_old _ _ (by omega),Go.heap_alloc_old _ _ (by omega)];exact heap_alloc_new w A
 . rw[Go.heap_alloc_old _ _ (by omega),<- z1];exact heap_alloc_new _ B
 . rw[<- z2];exact heap_alloc_new _ C
theorem Yao (o:Own)(room:Nat)(w:World)(hlt:Zah o w)(h1:1<=room)(h2:room<=1048576) :
 Calls prog 120 #[.int .i64 room] w fun x w'=>∃ pb o',x=.returned (.tuple #[.pointer (some ⟨pb,0,none⟩),.int .i64 0])/\Zap o' w' pb (pool0 room)/\Chg NewR o o' w w'/\Zah o' w'/\w.heap.size<=pb:=by
 have HL:=Hd hlt;have b1:(1:Int)<=room:=by omega
 have b2:(room:Int)<=1048576:=by omega
 have g2:=Hd Zoh;have g1:=Hd Zoi;clear hlt
 go_enter func120,ntmps120
 go_upto_region 3 with fail;refine Ze9 (fun W=>True) 7 (by kernel_rfl) trivial ?_;refine Zbf 0 rfl rfl (by kernel_rfl) ?_;apply Exists.intro;refine⟨fun w' hw=>?_,?_⟩
 . go_simp;rfl
 simp only[Zai];refine Zd4 [1,2] (by kernel_rfl) (fun i hi hS o ho=>?_);simp only[Zl3] at hi;rcases hi with rfl|rfl
 ·simp only[Zkp] at ho;subst ho;refine⟨rfl,?_⟩;have hm:=g2.out w.drew;rw[show w.drew.heap.size=w.heap.size from rfl] at hm;refine Zcb (v:=.slice (some ⟨w.heap.size,0,none⟩) 1 1) (w':=w.drew.alloc Zbg) (by go_simp) ⟨trivial,?_⟩;simp only[Zai];refine Zd4 [2] (by kernel_rfl) (fun i hi hS o ho=>?_);simp only[Zl3] at hi;subst hi;simp only[Zkp] at ho;subst ho;refine⟨rfl,?_⟩;have hm:(Instr.makeSlice 54 (.int .i64 1) (.int .i64 1)).run prog (w.alloc Zbg).drew=.ok (.slice (some ⟨w.heap.size+1,0,none⟩) 1 1) ((w.alloc Zbg).alloc Zbh).drew:=by
   have:=g1.out (w.alloc Zbg).drew;rw[show (w.alloc Zbg).drew.heap.size=w.heap.size+1 from World.size_alloc w _] at this;exact this
  refine Zcb (v:=.slice (some ⟨w.heap.size+1,0,none⟩) 1 1) (w':=((w.alloc Zbg).alloc Zbh).drew) (by go_simp) ⟨trivial,?_⟩;simp only[Zai];refine Zbf 3 rfl rfl (by kernel_rfl) ?_;apply Exists.intro;refine⟨fun w' hw=>?_,?_⟩
  . go_simp;rfl
  simp only[Zai];refine Zd4 [4] (by kernel_rfl) (fun i hi hS o ho=>?_);simp only[Zl3] at hi;subst hi;simp only[Zkp] at ho;subst ho;refine⟨rfl,?_⟩;have hz:((w.alloc Zbg).alloc Zbh).heap.size=w.heap.size+2:=by simp
  refine Zcb (v:=.pointer (some ⟨w.heap.size+2,0,none⟩)) (w':=(((w.alloc Zbg).alloc Zbh).alloc (.cells #[.int .i64 room,.slice (some ⟨w.heap.size,0,none⟩) 1 1,.slice (some ⟨(w.heap.size+1),0,none⟩) 1 1,.slice none 0 0,.int .i64 0] 231)).drew) (by go_simp) ⟨trivial,?_⟩;simp only[Zai];refine Zbf 5 rfl rfl (by kernel_rfl) ?_;apply Exists.intro;refine⟨fun w' hw=>?_,?_⟩
  . go_simp;rfl
  simp only[Zai];refine Zbf 6 rfl rfl (by kernel_rfl) ?_;apply Exists.intro;refine⟨fun w' hw=>?_,?_⟩
  . go_simp;rfl
  simp only[Zai];refine Zka (by kernel_rfl) ?_;obtain⟨o',q1,q2,q3,q4,q5,q6,q7,q8⟩:=made2 HL.out Zbg Zbh (.cells #[.int .i64 room,.slice (some ⟨w.heap.size,0,none⟩) 1 1,.slice (some ⟨(w.heap.size+1),0,none⟩) 1 1,.slice none 0 0,.int .i64 0] 231) .slots .taken (.inr (.inl rfl)) (.inr (.inr rfl));have g0:Zap o' (((w.alloc Zbg).alloc Zbh).alloc (.cells #[.int .i64 room,.slice (some ⟨w.heap.size,0,none⟩) 1 1,.slice (some ⟨(w.heap.size+1),0,none⟩) 1 1,.slice none 0 0,.int .i64 0] 231)).drew (w.heap.size+2) (pool0 room):=Zth h2 q3 q1 q2 q8 q6 q7;have q4':=q4.drew;have q5':Zah o' (((w.alloc Zbg).alloc Zbh).alloc (.cells #[.int .i64 room,.slice (some ⟨w.heap.size,0,none⟩) 1 1,.slice (some ⟨(w.heap.size+1),0,none⟩) 1 1,.slice none 0 0,.int .i64 0] 231)).drew:=q5;clear q1 q2 q3 q4 q5 q6 q7 q8 hm hz;go_wp2_with fail
  go_ret2
  exact⟨w.heap.size+2,o',rfl,g0,q4',q5',by omega⟩
 ·simp only[Zkp] at ho;subst ho;refine⟨rfl,?_⟩;have hm:=g1.out w.drew;rw[show w.drew.heap.size=w.heap.size from rfl] at hm;refine Zcb (v:=.slice (some ⟨w.heap.size,0,none⟩) 1 1) (w':=w.drew.alloc Zbh) (by go_simp) ⟨trivial,?_⟩;simp only[Zai];refine Zd4 [1] (by kernel_rfl) (fun i hi hS o ho=>?_);simp only[Zl3] at hi;subst hi;simp only[Zkp] at ho;subst ho;refine⟨rfl,?_⟩;have hm:(Instr.makeSlice 229 (.int .i64 1) (.int .i64 1)).run prog (w.alloc Zbh).drew=.ok (.slice (some ⟨w.heap.size+1,0,none⟩) 1 1) ((w.alloc Zbh).alloc Zbg).drew:=by
   have:=g2.out (w.alloc Zbh).drew;rw[show (w.alloc Zbh).drew.heap.size=w.heap.size+1 from World.size_alloc w _] at this;exact this
  refine Zcb (v:=.slice (some ⟨w.heap.size+1,0,none⟩) 1 1) (w':=((w.alloc Zbh).alloc Zbg).drew) (by go_simp) ⟨trivial,?_⟩;simp only[Zai];refine Zbf 3 rfl rfl (by kernel_rfl) ?_;apply Exists.intro;refine⟨fun w' hw=>?_,?_⟩
  . go_simp;rfl
  simp only[Zai];refine Zd4 [4] (by kernel_rfl) (fun i hi hS o ho=>?_);simp only[Zl3] at hi;subst hi;simp only[Zkp] at ho;subst ho;refine⟨rfl,?_⟩;have hz:((w.alloc Zbh).alloc Zbg).heap.size=w.heap.size+2:=by simp
  refine Zcb (v:=.pointer (some ⟨w.heap.size+2,0,none⟩)) (w':=(((w.alloc Zbh).alloc Zbg).alloc (.cells #[.int .i64 room,.slice (some ⟨(w.heap.size+1),0,none⟩) 1 1,.slice (some ⟨w.heap.size,0,none⟩) 1 1,.slice none 0 0,.int .i64 0] 231)).drew) (by go_simp) ⟨trivial,?_⟩;simp only[Zai];refine Zbf 5 rfl rfl (by kernel_rfl) ?_;apply Exists.intro;refine⟨fun w' hw=>?_,?_⟩
  . go_simp;rfl
  simp only[Zai];refine Zbf 6 rfl rfl (by kernel_rfl) ?_;apply Exists.intro;refine⟨fun w' hw=>?_,?_⟩
  . go_simp;rfl
  simp only[Zai];refine Zka (by kernel_rfl) ?_;obtain⟨o',q1,q2,q3,q4,q5,q6,q7,q8⟩:=made2 HL.out Zbh Zbg (.cells #[.int .i64 room,.slice (some ⟨(w.heap.size+1),0,none⟩) 1 1,.slice (some ⟨w.heap.size,0,none⟩) 1 1,.slice none 0 0,.int .i64 0] 231) .taken .slots (.inr (.inr rfl)) (.inr (.inl rfl));have g0:Zap o' (((w.alloc Zbh).alloc Zbg).alloc (.cells #[.int .i64 room,.slice (some ⟨(w.heap.size+1),0,none⟩) 1 1,.slice (some ⟨w.heap.size,0,none⟩) 1 1,.slice none 0 0,.int .i64 0] 231)).drew (w.heap.size+2) (pool0 room):=Zth h2 q3 q2 q1 q8 q7 q6;have q4':=q4.drew;have q5':Zah o' (((w.alloc Zbh).alloc Zbg).alloc (.cells #[.int .i64 room,.slice (some ⟨(w.heap.size+1),0,none⟩) 1 1,.slice (some ⟨w.heap.size,0,none⟩) 1 1,.slice none 0 0,.int .i64 0] 231)).drew:=q5;clear q1 q2 q3 q4 q5 q6 q7 q8 hm hz;go_wp2_with fail
  go_ret2
  exact⟨w.heap.size+2,o',rfl,g0,q4',q5',by omega⟩
open Go.RowKit
structure Zac where
 vars:List Nat
 level:List Nat
 pool:Zak
 tab:Nat->Nat×Nat->Option Nat
 counts:List Nat
 dead:Nat
structure Zaw where
 lb:Nat
 pb:Nat
 vv:Value
 vl:Value
 vt:Value
 vc:Value
 ts:List Nat
def ptrV (b:Nat):Value:=.pointer (some ⟨b,0,none⟩)
structure Zal (o:Own)(w:World)(sb:Nat)(d:Zac)(s:Zaw):Prop where
 own:o sb=some .store
 ownl:o s.lb=some .levels
 blk:w.heap[sb]?=some (.cells #[.pointer (some ⟨s.lb,0,none⟩),.pointer (some ⟨s.pb,0,none⟩),s.vt,s.vc,.int .i64 d.dead] 188 (0,0))
 lev:w.heap[s.lb]?=some (.cells #[s.vv,s.vl] 185 (0,0))
 vars:RowR o w .vars 3 1 s.vv d.vars.length (d.vars.map nat64)
 level:RowR o w .level 3 1 s.vl d.level.length (d.level.map nat64)
 pool:Zap o w s.pb d.pool
 tabs:RowR o w .tabs 189 1 s.vt s.ts.length (s.ts.map ptrV)
 tab:∀ v,v<s.ts.length->Zc2 o w v (s.ts.getD v 0) (d.tab v)
 counts:RowR o w .counts 3 1 s.vc d.counts.length (d.counts.map nat64)
 len:d.level.length=d.vars.length
 tlen:s.ts.length=d.vars.length
def Zaq (o:Own)(w:World)(sb:Nat)(d:Zac):Prop:=∃ s,Zal o w sb d s
theorem Zal.below {o:Own}{w w':World}{sb:Nat}{d:Zac}{s:Zaw}(h:Zal o w sb d s)(hlt:Zah o w)(hb:Below w.heap.size w w'):Zal o w' sb d s :=
 ⟨h.own,h.ownl,(hb.block sb (hlt _ _ h.own)).trans h.blk,(hb.block s.lb (hlt _ _ h.ownl)).trans h.lev,h.vars.below hlt hb,h.level.below hlt hb,h.pool.below hb hlt,h.tabs.below hlt hb,fun v hv=>(h.tab v hv).below hb hlt,h.counts.below hlt hb,h.len,h.tlen⟩
def Zac.levelOf (d:Zac)(v:Nat):Int:=if v<d.level.length then (d.level.getD v 0:Nat) else -1
theorem cells2 {w:World}{g:Nat}{a b:Value}{T:TypeId}(h:w.heap[g]?=some (.cells #[a,b] T (0,0))):w.cell? ⟨g,0,none⟩=some a/\w.cell? ⟨g,1,none⟩=some b/\(∀ k,w.frozen? ⟨g,k,none⟩=false) :=
 ⟨by rw[cell_of_row w g 0 _ _ _ h];rfl,by rw[cell_of_row w g 1 _ _ _ h];rfl,fun k=>by simp[World.frozen?,h]⟩
theorem Zk4 {o:Own}{w:World}{sb:Nat}{d:Zac}{s:Zaw}(h:Zal o w sb d s)(v:Nat)(hbig:d.level.length<1000000) :
 Calls prog 153 #[.pointer (some ⟨s.lb,0,none⟩),.int .i64 v] w fun x w'=>x=.returned (.int .i64 (d.levelOf v))/\w=w':=by
 obtain⟨c0,c1,_⟩:=cells2 h.lev;obtain⟨a,cap,g1,_⟩:=h.level.slice;rw[g1] at c1;have g0:=h.level;rw[g1] at g0
 by_cases hv:v<d.level.length
 ·obtain⟨g,cap',he,_⟩:=g0.shape (by omega);cases he;have hx:=g0.cell v (by simpa using hv);have g2:(d.level.map nat64)[v]?=some (.int .i64 ((d.level.getD v 0:Nat):Int)):=by
   rw[List.getElem?_map,List.getElem?_eq_getElem hv];simp[nat64,List.getD,hv]
  rw[g2] at hx;have g3:(v:Int)<d.level.length:=by omega
  have hr:d.levelOf v=((d.level.getD v 0:Nat):Int):=by simp[Zac.levelOf,hv]
  rw[hr];obtain⟨L,hL⟩:∃ L:Int,L=((d.level.getD v 0:Nat):Int):=⟨_,rfl⟩;rw[<- hL] at hx ⊢;clear h g0 g1 g2 hr hL
  go_enter func153,ntmps153
  go_wp2_with fail;go_ret;exact⟨rfl,rfl⟩
 ·have g3:(d.level.length:Int)<=v:=by omega
  have hr:d.levelOf v = -1:=by simp[Zac.levelOf,hv]
  rw[hr];clear h g0 g1 hr
  go_enter func153,ntmps153
  go_wp2_with fail;go_ret;exact⟨rfl,rfl⟩
theorem Zbz {o:Own}{w:World}{sb:Nat}{d:Zac}{s:Zaw}(h:Zal o w sb d s)(v:Nat)(hbig:d.level.length<1000000) :
 Calls prog 114 #[.pointer (some ⟨sb,0,none⟩),.int .i64 v] w fun x w'=>x=.returned (.int .i64 (d.levelOf v))/\w=w':=by
 obtain⟨c0,c1,c2,c3,c4,f0⟩:=cells5 h.blk;have HC:=Hd (Zk4 h v hbig);clear h
 go_enter func114,ntmps114
 go_wp2_with fail;refine HC.out.mono ?_;rintro x w' ⟨rfl,rfl⟩;go_wp2_with fail;go_ret;exact⟨rfl,rfl⟩
open Go.RowKit
def Zak.has (p:Zak)(i:Nat):RN:=if p.tk i=true then p.nd i else rn0
theorem Zcr (o:Own)(pb:Nat)(p:Zak)(i:Nat)(w:World)(h:Zap o w pb p)(hlt:Zah o w) :
 Calls prog 160 #[.pointer (some ⟨pb,0,none⟩),.int .i64 i] w fun x w'=>x=.returned (.tuple #[Zav (p.has i),.bool (p.tk i)])/\Below w.heap.size w w':=by
 by_cases hi:p.tk i=true
 . have:=Zm3 o pb p i w h hlt hi;unfold Zak.has;rw[if_pos hi,hi];exact this
 ·have g0:p.tk i=false:=by simpa using hi
  have:=Zyg o pb p i w h hlt g0;unfold Zak.has;rw[if_neg hi,g0];exact this
theorem Yev (k:Nat):(((k:Nat):Int) == 0)=decide (k=0):=by
 cases k with
 | zero=>rfl
 | succ n=>simp;omega
theorem Zdm {P:Program}{o:Oper}{a:Act}{w:World}{v:Value}{f:FuncId}{args:Array Value}{K:Act->World->Prop}{Q:Exit->Act->World->Prop}{R:World->Prop}(he:(execOp a.eval o).run P w=.ok (.enter f args) w)
 (hc:Calls P f args w fun e w'=>e=.returned v/\R w') (h:∀ w',R w'->K (a.put o.dst v) w'):o.wp P a w K Q:=by
 unfold Oper.wp;simp only[he,Oper.upon];exact hc.mono fun e w' ⟨h1,h2⟩=>by subst h1;exact h w' h2
theorem Zm1 {P:Program}{o:Oper}{a:Act}{w w':World}{t:TypeId}{s x:Operand}{K:Act->World->Prop}{Q:Exit->Act->World->Prop}(ho:o.op=.store t s x)
 (hr:(Instr.storeAt t (a.eval s) (a.eval x)).run P w=.ok () w') (h:K (a.put o.dst undef) w'):o.wp P a w K Q:=by
 unfold Oper.wp;rw[Zi1 ho hr];exact h
theorem Zmi {w W:World}{bx:Nat}(hb:Below w.heap.size w W)(hge:w.heap.size<=bx)(n:RN):Below w.heap.size w (set5 W bx 0 n) :=
 ((((hb.setCell (p:=⟨bx,0,none⟩) hge _).setCell (p:=⟨bx,1,none⟩) hge _).setCell (p:=⟨bx,2,none⟩) hge _).setCell (p:=⟨bx,3,none⟩) hge _).setCell (p:=⟨bx,4,none⟩) hge _
theorem Ya7 {W:World}{bx:Nat}(h:W.heap[bx]?=some (.cells #[.int .i64 0,.int .i64 0,.int .i64 0,.int .i64 0,.int .i64 0] 236 (0,0)))(n:RN) :
 (set5 W bx 0 n).heap[bx]?=some (.cells #[.int .i64 n.id,.int .i64 n.v,.int .i64 n.lo,.int .i64 n.hi,.int .i64 n.refs] 236 (0,0)) :=
 Zae (k:=4) (Zae (k:=3) (Zae (k:=2) (Zae (k:=1) (Zae (k:=0) h _) _) _) _) _
theorem Zhd (a:Act){d:Option Tmp}{t:Tmp}(u v:Value)(h:d≠some t):(a.put (some t) u).put d v=(a.put d v).put (some t) u:=by
 cases d with
 | none=>rfl
 | some e =>
   have g0:t≠e:=fun c=>h (by rw[c])
   simp only[Act.put];rw[Array.setIfInBounds_comm _ _ g0]
theorem Yd0 (a:Act)(t:Tmp)(u v:Value):(a.put (some t) u).put (some t) v=a.put (some t) v:=by
 simp only[Act.put,Array.setIfInBounds_setIfInBounds]
theorem Yaz (a:Act)(t:Tmp):a.put (some t) (a.tmps.getD t undef)=a:=by
 simp only[Act.put];have:a.tmps.setIfInBounds t (a.tmps.getD t undef)=a.tmps:=by
  apply Array.ext_getElem?;intro i;rw[Array.getElem?_setIfInBounds];split
  ·rename_i e
   subst e;split
   ·rename_i hl
    simp[Array.getD,hl]
   ·rename_i hl
    exact(Array.getElem?_eq_none (by omega)).symm
  . rfl
 rw[this]
def lwd (l:List Oper)(is:List Nat):Array Bool:=is.foldl (fun L i=>L.setIfInBounds i true) (Array.replicate l.toArray.size false)
theorem Zn2 (l:List Oper)(is:List Nat)(i:Nat):lwd l (is++[i])=(lwd l is).setIfInBounds i true:=by
 unfold lwd;rw[List.foldl_append];rfl
def rdR (l:List Oper)(is:List Nat)(i:Nat):Bool:=Region.noSelect l.toArray&&(Region.ready .any l.toArray (lwd l is)).contains i&&Region.free .any l.toArray (lwd l is) i&&(decide (l.toArray.size<=13)||reaches l.toArray l.toArray.size i 13)
def rdA (l:List Oper)(is js:List Nat):Bool:=decide (Region.ready .any l.toArray (lwd l is)=js) && !js.isEmpty
def rdE (l:List Oper)(is:List Nat):Bool:=(Region.ready .any l.toArray (lwd l is)).isEmpty
def andL:List Bool->Bool
 | []=>true
 | b::r=>b&&andL r
theorem Za2 {r:List Bool}(h:andL r=true)(i:Nat){b:Bool}(hb:r[i]?=some b):b=true:=by
 induction r generalizing i with
 | nil=>simp at hb
 | cons c r ih =>
   have h2:(c&&andL r)=true:=h;rw[Bool.and_eq_true] at h2;cases i with
   | zero=>simp at hb;rw[<- hb];exact h2.1
   | succ i=>exact ih h2.2 i (by simpa using hb)
def Ye9 (l:List Oper):List Bool:=[rdR l [] 0,
 rdR l ([]++[0]) 1,
 rdR l (([]++[0])++[1]) 2,
 rdR l ((([]++[0])++[1])++[2]) 3,
 rdR l (((([]++[0])++[1])++[2])++[3]) 4,
 rdA l ((((([]++[0])++[1])++[2])++[3])++[4]) [5,10],
 rdA l (((((([]++[0])++[1])++[2])++[3])++[4])++[5]) [6,10],
 rdR l ((((((([]++[0])++[1])++[2])++[3])++[4])++[5])++[6]) 7,
 rdR l (((((((([]++[0])++[1])++[2])++[3])++[4])++[5])++[6])++[7]) 8,
 rdR l ((((((((([]++[0])++[1])++[2])++[3])++[4])++[5])++[6])++[7])++[8]) 9,
 rdA l (((((((((([]++[0])++[1])++[2])++[3])++[4])++[5])++[6])++[7])++[8])++[9]) [10],
 rdA l ((((((((((([]++[0])++[1])++[2])++[3])++[4])++[5])++[6])++[7])++[8])++[9])++[10]) [11],
 rdR l (((((((((((([]++[0])++[1])++[2])++[3])++[4])++[5])++[6])++[7])++[8])++[9])++[10])++[11]) 12,
 rdE l ((((((((((((([]++[0])++[1])++[2])++[3])++[4])++[5])++[6])++[7])++[8])++[9])++[10])++[11])++[12]),
 rdA l ((((((([]++[0])++[1])++[2])++[3])++[4])++[5])++[10]) [6],
 rdR l (((((((([]++[0])++[1])++[2])++[3])++[4])++[5])++[10])++[6]) 7,
 rdR l ((((((((([]++[0])++[1])++[2])++[3])++[4])++[5])++[10])++[6])++[7]) 8,
 rdR l (((((((((([]++[0])++[1])++[2])++[3])++[4])++[5])++[10])++[6])++[7])++[8]) 9,
 rdA l ((((((((((([]++[0])++[1])++[2])++[3])++[4])++[5])++[10])++[6])++[7])++[8])++[9]) [11],
 rdR l (((((((((((([]++[0])++[1])++[2])++[3])++[4])++[5])++[10])++[6])++[7])++[8])++[9])++[11]) 12,
 rdE l ((((((((((((([]++[0])++[1])++[2])++[3])++[4])++[5])++[10])++[6])++[7])++[8])++[9])++[11])++[12]),
 rdA l (((((([]++[0])++[1])++[2])++[3])++[4])++[10]) [5],
 rdA l ((((((([]++[0])++[1])++[2])++[3])++[4])++[10])++[5]) [6],
 rdR l (((((((([]++[0])++[1])++[2])++[3])++[4])++[10])++[5])++[6]) 7,
 rdR l ((((((((([]++[0])++[1])++[2])++[3])++[4])++[10])++[5])++[6])++[7]) 8,
 rdR l (((((((((([]++[0])++[1])++[2])++[3])++[4])++[10])++[5])++[6])++[7])++[8]) 9,
 rdA l ((((((((((([]++[0])++[1])++[2])++[3])++[4])++[10])++[5])++[6])++[7])++[8])++[9]) [11],
 rdR l (((((((((((([]++[0])++[1])++[2])++[3])++[4])++[10])++[5])++[6])++[7])++[8])++[9])++[11]) 12,
 rdE l ((((((((((((([]++[0])++[1])++[2])++[3])++[4])++[10])++[5])++[6])++[7])++[8])++[9])++[11])++[12])]
abbrev Zrd:Obj:=.cells #[.int .i64 0,.int .i64 0,.int .i64 0,.int .i64 0,.int .i64 0] 236
abbrev Zwq (n:RN):Obj:=.cells #[.int .i64 n.id,.int .i64 n.v,.int .i64 n.lo,.int .i64 n.hi,.int .i64 n.refs] 236 (0,0)
section
variable {P:Program}{Q:Exit->Act->World->Prop}
theorem Zie {S:World->Prop}{l:List Oper}{f:Nat}{is:List Nat}{a:Act}{w:World}{i:Nat}{o:Oper}(hr:rdA l is [i]=true)(ho:l[i]?=some o)(hg:o.guard=none)
 (h:S w->o.wp P a w (fun a' w'=>S w'/\Left P l Q S 13 f (lwd l (is++[i])) a' w') (NP Q)):Left P l Q S 13 (f+1) (lwd l is) a w :=
 Zd4 [i] hr fun j hj hS o2 ho2=>by
  rw[List.mem_singleton] at hj;subst hj;rw[ho] at ho2;cases ho2;rw[<- Zn2];exact⟨by simp[Region.wanted,hg],h hS⟩
theorem Zs5 {S:World->Prop}{l:List Oper}{f:Nat}{is:List Nat}{a:Act}{w:World}{i j:Nat}{o p:Oper}(hr:rdA l is [i,j]=true)(ho:l[i]?=some o)(hp:l[j]?=some p)(hg:o.guard=none)(hq:p.guard=none)
 (h:S w->o.wp P a w (fun a' w'=>S w'/\Left P l Q S 13 f (lwd l (is++[i])) a' w') (NP Q)) (h2:S w->p.wp P a w (fun a' w'=>S w'/\Left P l Q S 13 f (lwd l (is++[j])) a' w') (NP Q)):Left P l Q S 13 (f+1) (lwd l is) a w :=
 Zd4 [i,j] hr fun k hk hS o2 ho2=>by
  simp only[List.mem_cons,List.not_mem_nil,or_false] at hk;rw[<- Zn2];rcases hk with rfl|rfl
  . rw[ho] at ho2;cases ho2;exact⟨by simp[Region.wanted,hg],h hS⟩
  . rw[hp] at ho2;cases ho2;exact⟨by simp[Region.wanted,hq],h2 hS⟩
theorem Zc3 {S:World->Prop}{l:List Oper}{f:Nat}{is:List Nat}{a:Act}{w:World}{i:Nat}{o:Oper}{v:Value}(hB:rdR l is i=true)(ho:l[i]?=some o)(hg:o.guard=none)
 (hv:∀ w,S w->(execOp a.eval o).run P w=.ok (.value v) w) (h:Left P l Q S 13 f (lwd l (is++[i])) (a.put o.dst v) w):Left P l Q S 13 (f+1) (lwd l is) a w :=
 Zbf i ho hg hB ⟨v,hv,by rw[<- Zn2];exact h⟩
theorem Zeq {id:Nat}{l:List Oper}{a:Act}{w0 w:World}{o0 o1 o2 o3 o4 o5 o6 o7 o8 o9 o10 o11 o12:Oper}{t:Tmp}{N:RN}(hl:l=[o0,o1,o2,o3,o4,o5,o6,o7,o8,o9,o10,o11,o12])(rd:andL (Ye9 l)=true)(hm:P.follows .mixedOrders=true)
 (hg:(o0.guard=none/\o1.guard=none/\o2.guard=none/\o3.guard=none/\o4.guard=none/\o5.guard=none/\o6.guard=none)/\o7.guard=none/\o8.guard=none/\o9.guard=none/\o10.guard=none/\o11.guard=none/\o12.guard=none)
 (ht:o10.dst=some t) (hne:o5.dst≠some t/\o6.dst≠some t/\o7.dst≠some t/\o8.dst≠some t/\o9.dst≠some t) (hS:Below w0.heap.size w0 w.drew)
 {v0 v1 v2 v3 v4 v5 v6 v7 v8 v9 v12:Value} {g5 g6:FuncId} {as5 as6:Array Value}
 (c5:∀ W,Below w0.heap.size w0 W->Calls P g5 as5 W fun e w'=>e=.returned v5/\W=w') (c6:∀ W,Below w0.heap.size w0 W->Calls P g6 as6 W fun e w'=>e=.returned v6/\Below W.heap.size W w')
 (h0:∀ W,Below w0.heap.size w0 W->(execOp a.eval o0).run P W=.ok (.value v0) W/\(execOp (a.put o0.dst v0).eval o1).run P W=.ok (.value v1) W/\(execOp ((a.put o0.dst v0).put o1.dst v1).eval o2).run P W=.ok (.value v2) W/\(execOp (((a.put o0.dst v0).put o1.dst v1).put o2.dst v2).eval o3).run P W=.ok (.value v3) W/\(execOp ((((a.put o0.dst v0).put o1.dst v1).put o2.dst v2).put o3.dst v3).eval o4).run P W=.ok (.value v4) W)
 (h5:∀ (x:Value) W,(execOp ((((((a.put o0.dst v0).put o1.dst v1).put o2.dst v2).put o3.dst v3).put o4.dst v4).put (some t) x).eval o5).run P W=.ok (.enter g5 as5) W/\(execOp (((((((a.put o0.dst v0).put o1.dst v1).put o2.dst v2).put o3.dst v3).put o4.dst v4).put (some t) x).put o5.dst v5).eval o6).run P W=.ok (.enter g6 as6) W)
 (h7:∀ (x:Value) (W:World) (X:Act),X=(((((((a.put o0.dst v0).put o1.dst v1).put o2.dst v2).put o3.dst v3).put o4.dst v4).put (some t) x).put o5.dst v5).put o6.dst v6->(execOp X.eval o7).run P W=.ok (.value v7) W/\(execOp (X.put o7.dst v7).eval o8).run P W=.ok (.value v8) W/\(execOp ((X.put o7.dst v7).put o8.dst v8).eval o9).run P W=.ok (.value v9) W)
 (h10:∀ (a:Act) W,(execOp a.eval o10).run P W=.ok (.value (.pointer (some ⟨W.heap.size,0,none⟩))) (W.alloc Zrd))
 (h11:∀ (bx:Nat) (W:World) (Y:Act),W.heap[bx]?=some (.cells #[.int .i64 0,.int .i64 0,.int .i64 0,.int .i64 0,.int .i64 0] 236 (0,0))->Y=((((((((((a.put o0.dst v0).put o1.dst v1).put o2.dst v2).put o3.dst v3).put o4.dst v4).put (some t) (.pointer (some ⟨bx,0,none⟩))).put o5.dst v5).put o6.dst v6).put o7.dst v7).put o8.dst v8).put o9.dst v9->(∃ T s x,o11.op=.store T s x/\(Instr.storeAt T (Y.eval s) (Y.eval x)).run P W=.ok () (set5 W bx 0 N))/\∀ W,(execOp (Y.put o11.dst undef).eval o12).run P W=.ok (.value v12) W)
 (hf:∀ (bx:Nat) (W:World),w0.heap.size<=bx->Below w0.heap.size w0 W->W.heap[bx]?=some (Zwq N)->Q .normal ((((((((((((a.put o0.dst v0).put o1.dst v1).put o2.dst v2).put o3.dst v3).put o4.dst v4).put (some t) (.pointer (some ⟨bx,0,none⟩))).put o5.dst v5).put o6.dst v6).put o7.dst v7).put o8.dst v8).put o9.dst v9).put o11.dst undef |>.put o12.dst v12) W) :
 (Code.region id l.toArray true).wp P Q a w:=by
 obtain⟨⟨q0,q1,q2,q3,q4,q5,q6⟩,q7,q8,q9,q10,q11,q12⟩:=hg;obtain⟨n5,n6,n7,n8,n9⟩:=hne;have e0:l[0]?=some o0:=by rw[hl];rfl
 have e1:l[1]?=some o1:=by rw[hl];rfl
 have e2:l[2]?=some o2:=by rw[hl];rfl
 have e3:l[3]?=some o3:=by rw[hl];rfl
 have e4:l[4]?=some o4:=by rw[hl];rfl
 have e5:l[5]?=some o5:=by rw[hl];rfl
 have e6:l[6]?=some o6:=by rw[hl];rfl
 have e7:l[7]?=some o7:=by rw[hl];rfl
 have e8:l[8]?=some o8:=by rw[hl];rfl
 have e9:l[9]?=some o9:=by rw[hl];rfl
 have e10:l[10]?=some o10:=by rw[hl];rfl
 have e11:l[11]?=some o11:=by rw[hl];rfl
 have e12:l[12]?=some o12:=by rw[hl];rfl
 have g3:l.length=13:=by rw[hl];rfl
 clear hl;have r0:=Za2 rd 0 rfl;have r1:=Za2 rd 1 rfl;have r2:=Za2 rd 2 rfl;have r3:=Za2 rd 3 rfl;have r4:=Za2 rd 4 rfl;have s0:=Za2 rd 5 rfl;have s1:=Za2 rd 6 rfl;have p7:=Za2 rd 7 rfl;have p8:=Za2 rd 8 rfl;have p9:=Za2 rd 9 rfl;have p10:=Za2 rd 10 rfl;have p11:=Za2 rd 11 rfl;have p12:=Za2 rd 12 rfl;have p13:=Za2 rd 13 rfl;have u6:=Za2 rd 14 rfl;have u7:=Za2 rd 15 rfl;have u8:=Za2 rd 16 rfl;have u9:=Za2 rd 17 rfl;have u11:=Za2 rd 18 rfl;have u12:=Za2 rd 19 rfl;have u13:=Za2 rd 20 rfl;have k5:=Za2 rd 21 rfl;have k6:=Za2 rd 22 rfl;have k7:=Za2 rd 23 rfl;have k8:=Za2 rd 24 rfl;have k9:=Za2 rd 25 rfl;have k11:=Za2 rd 26 rfl;have k12:=Za2 rd 27 rfl;have k13:=Za2 rd 28 rfl;clear rd;refine Ze9 (fun W:World=>Below w0.heap.size w0 W) 13 hm hS ?_;rw[g3]
 show Left P l Q (fun W:World=>Below w0.heap.size w0 W) 13 13 (lwd l []) a w.drew
 have hw:=hS
 generalize w.drew=w at hw ⊢
 refine Zc3 r0 e0 q0 (fun W hW=>(h0 W hW).1) ?_;refine Zc3 r1 e1 q1 (fun W hW=>(h0 W hW).2.1) ?_;refine Zc3 r2 e2 q2 (fun W hW=>(h0 W hW).2.2.1) ?_;refine Zc3 r3 e3 q3 (fun W hW=>(h0 W hW).2.2.2.1) ?_;refine Zc3 r4 e4 q4 (fun W hW=>(h0 W hW).2.2.2.2) ?_;obtain⟨A,hA⟩:∃ A,A=((((a.put o0.dst v0).put o1.dst v1).put o2.dst v2).put o3.dst v3).put o4.dst v4:=⟨_,rfl⟩;rw[<- hA] at h5 h7 h11 hf ⊢;clear h0 hA;have c5p:∀ (x y:Value),((A.put (some t) x).put o5.dst v5).put (some t) y=(A.put (some t) y).put o5.dst v5:=fun x y=>by
  rw[Zhd A x v5 n5,Yd0,<- Zhd A y v5 n5]
 have c9p:∀ (x y:Value),((((((A.put (some t) x).put o5.dst v5).put o6.dst v6).put o7.dst v7).put o8.dst v8).put o9.dst v9).put (some t) y=(((((A.put (some t) y).put o5.dst v5).put o6.dst v6).put o7.dst v7).put o8.dst v8).put o9.dst v9:=fun x y=>by
  rw[<- Zhd _ y v9 n9,<- Zhd _ y v8 n8,<- Zhd _ y v7 n7,<- Zhd _ y v6 n6,c5p]
 have fin:∀ (is:List Nat) (bx:Nat) (W:World),W.heap[bx]?=some (.cells #[.int .i64 0,.int .i64 0,.int .i64 0,.int .i64 0,.int .i64 0] 236 (0,0))->w0.heap.size<=bx->Below w0.heap.size w0 W ->
  rdA l is [11]=true->rdR l (is++[11]) 12=true->rdE l (is++[11]++[12])=true ->
  Left P l Q (fun W:World=>Below w0.heap.size w0 W) 13 2 (lwd l is) ((((((A.put (some t) (.pointer (some ⟨bx,0,none⟩))).put o5.dst v5).put o6.dst v6).put o7.dst v7).put o8.dst v8).put o9.dst v9) W:=fun is bx W hz g2 hW i1 i2 i3=>by
  obtain⟨⟨T,s,x,j1,j2⟩,j3⟩:=h11 bx W _ hz rfl;refine Zie i1 e11 q11 fun _=>Zm1 j1 j2 ⟨Zmi hW g2 N,?_⟩
  refine Zc3 i2 e12 q12 (fun W _=>j3 W) ?_;exact Zka i3 (hf bx _ g2 (Zmi hW g2 N) (Ya7 hz N))
 refine Zs5 s0 e5 e10 q5 q10 (fun _=>?_) (fun _=>?_)
 ·obtain⟨x,hx⟩:∃ x,A.put (some t) x=A:=⟨_,Yaz A t⟩;rw[<- hx];refine Zdm (h5 x w).1 (c5 w hw) ?_;rintro W rfl;refine⟨hw,Zs5 s1 e6 e10 q6 q10 (fun _=>?_) (fun _=>?_)⟩
  ·refine Zdm (h5 x w).2 (c6 w hw) fun W hW=>?_
   have g1:=hw.trans (hW.mono hw.size);refine⟨g1,?_⟩;refine Zc3 p7 e7 q7 (fun W _=>(h7 x W _ rfl).1) ?_;refine Zc3 p8 e8 q8 (fun W _=>(h7 x W _ rfl).2.1) ?_;refine Zc3 p9 e9 q9 (fun W _=>(h7 x W _ rfl).2.2) ?_;have g0:=g1.trans ((Zaf W Zrd).mono g1.size);refine Zie p10 e10 q10 fun _=>Zcb (h10 _ W) ⟨g0,?_⟩
   rw[ht,c9p];exact fin _ _ _ (heap_alloc_new W _) g1.size g0 p11 p12 p13
  ·have g0:=hw.trans ((Zaf w Zrd).mono hw.size);refine Zcb (h10 _ w) ⟨g0,?_⟩;rw[ht,c5p];have hz:=heap_alloc_new w Zrd;have g2:w0.heap.size<=w.heap.size:=hw.size
   generalize w.alloc Zrd=u at g0 hz ⊢
   generalize w.heap.size=bx at hz g2 ⊢
   refine Zie u6 e6 q6 fun _=>Zdm (h5 _ u).2 (c6 u g0) fun W hW=>?_
   have g1:=g0.trans (hW.mono g0.size);refine⟨g1,?_⟩;refine Zc3 u7 e7 q7 (fun W _=>(h7 _ W _ rfl).1) ?_;refine Zc3 u8 e8 q8 (fun W _=>(h7 _ W _ rfl).2.1) ?_;refine Zc3 u9 e9 q9 (fun W _=>(h7 _ W _ rfl).2.2) ?_;exact fin _ bx W ((hW.block _ (Array.getElem?_eq_some_iff.1 hz).1).trans hz) g2 g1 u11 u12 u13
 ·have g0:=hw.trans ((Zaf w Zrd).mono hw.size);refine Zcb (h10 _ w) ⟨g0,?_⟩;rw[ht];have hz:=heap_alloc_new w Zrd;have g2:w0.heap.size<=w.heap.size:=hw.size
  generalize w.alloc Zrd=u at g0 hz ⊢
  generalize w.heap.size=bx at hz g2 ⊢
  refine Zie k5 e5 q5 fun _=>Zdm (h5 _ u).1 (c5 u g0) ?_
  rintro W rfl;refine⟨g0,?_⟩;refine Zie k6 e6 q6 fun _=>Zdm (h5 _ u).2 (c6 u g0) fun W hW=>?_
  have g1:=g0.trans (hW.mono g0.size);refine⟨g1,?_⟩;refine Zc3 k7 e7 q7 (fun W _=>(h7 _ W _ rfl).1) ?_;refine Zc3 k8 e8 q8 (fun W _=>(h7 _ W _ rfl).2.1) ?_;refine Zc3 k9 e9 q9 (fun W _=>(h7 _ W _ rfl).2.2) ?_;exact fin _ bx W ((hW.block _ (Array.getElem?_eq_some_iff.1 hz).1).trans hz) g2 g1 k11 k12 k13
end
open Go.RowKit
theorem Za8 {o:Own}{w:World}{sb:Nat}{d:Zac}{s:Zaw}(h:Zal o w sb d s)(hlt:Zah o w)(f:Nat)(hf:f<eMax) :
 Calls prog 155 #[.pointer (some ⟨sb,0,none⟩),.int .i64 f] w fun x w'=>x=.returned (.bool (decide (enode f=0)||d.pool.tk (enode f)))/\Below w.heap.size w w':=by
 obtain⟨c0,c1,c2,c3,c4,f0⟩:=cells5 h.blk;have lsb:sb<w.heap.size:=Zab c0;have hz:(0:Int)<=f:=by omega
 have g3:Hid (∀ W:World,Below w.heap.size w W->W.cell? ⟨sb,1,none⟩=some (.pointer (some ⟨s.pb,0,none⟩))):=Hd (fun W hb=>(hb.cell (p:=⟨sb,1,none⟩) lsb).trans c1);have g1:Hid (∀ W:World,Below w.heap.size w W->Calls prog 160 #[.pointer (some ⟨s.pb,0,none⟩),.int .i64 (enode f:Nat)] W fun x w'=>x=.returned (.tuple #[Zav (d.pool.has (enode f)),.bool (d.pool.tk (enode f))])/\Below W.heap.size W w') :=
  Hd (fun W hb=>Zcr o s.pb d.pool (enode f) W (h.pool.below hb hlt) (hlt.mono hb.size))
 have HN:=Hd (fun W=>Zbx f W hf);obtain⟨N,hN⟩:∃ N,N=d.pool.has (enode f):=⟨_,rfl⟩;obtain⟨B,hB⟩:∃ B,B=d.pool.tk (enode f):=⟨_,rfl⟩;obtain⟨k,hk⟩:∃ k,k=enode f:=⟨_,rfl⟩;rw[<- hN,<- hB,<- hk] at g1;rw[<- hk] at HN;rw[<- hB,<- hk];obtain⟨z,g0⟩:∃ z:Bool,z=decide (k=0):=⟨_,rfl⟩;have g5:(((k:Nat):Int) == 0)=z:=by rw[g0];exact Yev k
 rw[<- g0];clear h hlt c0 c1 c2 c3 c4 f0 hN hB hk hf g0
 go_enter func155,ntmps155
 go_upto_region 3 with fail;refine Zeq (w0:=w) (N:=N) (v0:=.pointer (some ⟨sb,0,none⟩)) (v1:=.pointer (some ⟨sb,0,none⟩)) (v2:=.pointer (some ⟨sb,1,none⟩)) (v3:=.pointer (some ⟨s.pb,0,none⟩)) (v4:=.int .i64 f) (v5:=.int .i64 k) (v6:=.tuple #[Zav N,.bool B]) (v7:=.tuple #[Zav N,.bool B]) (v8:=Zav N) (v9:=.bool B) (v12:=.bool B) rfl (by kernel_rfl) (by kernel_rfl) ⟨⟨rfl,rfl,rfl,rfl,rfl,rfl,rfl⟩,rfl,rfl,rfl,rfl,rfl,rfl⟩ rfl (by decide) (Zag w 1) (fun W _=>HN.out W) (fun W hb=>g1.out W hb) (fun W hb=>?_) (fun x W=>?_) (fun x W X hX=>?_) (fun a W=>?_) (fun bx W Y hz hY=>?_) (fun bx W3 g6 g2 g4=>?_)
 . have g7:=g3.out W hb;simp only[Zai];refine⟨?_,?_,?_,?_,?_⟩<;>go_simp
 . simp only[Zai];refine⟨?_,?_⟩<;>go_simp
 . subst hX;simp only[Zai];unfold Zav;refine⟨?_,?_,?_⟩<;>go_simp
 . go_simp
 . subst hY;obtain⟨e0,e1,e2,e3,e4,fz⟩:=cells5 hz;simp only[Zai];unfold Zav;refine⟨⟨_,_,_,rfl,Zby (k:=0) fz e0 e1 e2 e3 e4 _ _ _ _ _⟩,fun W=>?_⟩;go_simp
 simp only[Zai];unfold Zav;go_wp2_with fail;refine(HN.out _).mono ?_;rintro x w' ⟨rfl,rfl⟩;cases z
 all_goals go_wp2_with fail
 all_goals go_ret
 all_goals exact⟨rfl,g2⟩
open Go.RowKit
theorem Za9 {o:Own}{w:World}{sb:Nat}{d:Zac}{s:Zaw}(h:Zal o w sb d s)(hlt:Zah o w)(f:Nat)(hf:f<eMax)(lv:Int)(hbig:d.level.length<1000000) :
 Calls prog 178 #[.pointer (some ⟨sb,0,none⟩),.int .i64 f,.int .i64 lv] w fun x w'=>x=.returned (.bool (decide (enode f=0)||(d.pool.tk (enode f)&&decide (lv<d.levelOf (d.pool.has (enode f)).v))))/\Below w.heap.size w w':=by
 obtain⟨c0,c1,c2,c3,c4,f0⟩:=cells5 h.blk;have lsb:sb<w.heap.size:=Zab c0;have g5:Hid (∀ W:World,Below w.heap.size w W->W.cell? ⟨sb,1,none⟩=some (.pointer (some ⟨s.pb,0,none⟩))):=Hd (fun W hb=>(hb.cell (p:=⟨sb,1,none⟩) lsb).trans c1);have g2:Hid (∀ W:World,Below w.heap.size w W->Calls prog 160 #[.pointer (some ⟨s.pb,0,none⟩),.int .i64 (enode f:Nat)] W fun x w'=>x=.returned (.tuple #[Zav (d.pool.has (enode f)),.bool (d.pool.tk (enode f))])/\Below W.heap.size W w') :=
  Hd (fun W hb=>Zcr o s.pb d.pool (enode f) W (h.pool.below hb hlt) (hlt.mono hb.size))
 have g3:Hid (∀ W:World,Below w.heap.size w W->Calls prog 114 #[.pointer (some ⟨sb,0,none⟩),.int .i64 ((d.pool.has (enode f)).v:Nat)] W fun x w'=>x=.returned (.int .i64 (d.levelOf (d.pool.has (enode f)).v))/\W=w') :=
  Hd (fun W hb=>Zbz (h.below hlt hb) _ hbig)
 have HN:=Hd (fun W=>Zbx f W hf);obtain⟨N,hN⟩:∃ N,N=d.pool.has (enode f):=⟨_,rfl⟩;obtain⟨B,hB⟩:∃ B,B=d.pool.tk (enode f):=⟨_,rfl⟩;obtain⟨k,hk⟩:∃ k,k=enode f:=⟨_,rfl⟩;rw[<- hN] at g2 g3;rw[<- hB,<- hk] at g2;rw[<- hk] at HN;rw[<- hB,<- hN,<- hk];obtain⟨M,hM⟩:∃ M,M=d.levelOf N.v:=⟨_,rfl⟩;rw[<- hM] at g3 ⊢;obtain⟨z,g1⟩:∃ z:Bool,z=decide (k=0):=⟨_,rfl⟩;have g6:(((k:Nat):Int) == 0)=z:=by rw[g1];exact Yev k
 rw[<- g1];clear h hlt c0 c1 c2 c3 c4 f0 hN hB hk hf g1 hM
 go_enter func178,ntmps178
 go_upto_region 1 with fail;refine Zeq (w0:=w) (N:=N) (v0:=.pointer (some ⟨sb,0,none⟩)) (v1:=.pointer (some ⟨sb,0,none⟩)) (v2:=.pointer (some ⟨sb,1,none⟩)) (v3:=.pointer (some ⟨s.pb,0,none⟩)) (v4:=.int .i64 f) (v5:=.int .i64 k) (v6:=.tuple #[Zav N,.bool B]) (v7:=.tuple #[Zav N,.bool B]) (v8:=Zav N) (v9:=.bool B) (v12:=.bool B) rfl (by kernel_rfl) (by kernel_rfl) ⟨⟨rfl,rfl,rfl,rfl,rfl,rfl,rfl⟩,rfl,rfl,rfl,rfl,rfl,rfl⟩ rfl (by decide) (Zag w 1) (fun W _=>HN.out W) (fun W hb=>g2.out W hb) (fun W hb=>?_) (fun x W=>?_) (fun x W X hX=>?_) (fun a W=>?_) (fun bx W Y hz hY=>?_) (fun bx W3 g7 g0 g4=>?_)
 . have g8:=g5.out W hb;simp only[Zai];refine⟨?_,?_,?_,?_,?_⟩<;>go_simp
 . simp only[Zai];refine⟨?_,?_⟩<;>go_simp
 . subst hX;simp only[Zai];unfold Zav;refine⟨?_,?_,?_⟩<;>go_simp
 . go_simp
 . subst hY;obtain⟨e0,e1,e2,e3,e4,fz⟩:=cells5 hz;simp only[Zai];unfold Zav;refine⟨⟨_,_,_,rfl,Zby (k:=0) fz e0 e1 e2 e3 e4 _ _ _ _ _⟩,fun W=>?_⟩;go_simp
 simp only[Zai];unfold Zav;obtain⟨y0,y1,y2,y3,y4,yz⟩:=cells5 g4;go_wp2_with fail;refine(HN.out _).mono ?_;rintro x w' ⟨rfl,rfl⟩;cases z
 ·cases B
  . go_wp2_with fail;go_ret;exact⟨rfl,g0⟩
  . go_wp2_with fail;refine(g3.out _ g0).mono ?_;rintro x w' ⟨rfl,rfl⟩;go_wp2_with fail;go_ret;exact⟨rfl,g0⟩
 . go_wp2_with fail;go_ret;exact⟨rfl,g0⟩
open Go.RowKit
theorem Zbj {P:Program}{f:FuncId}{args:Array Value}{w:World}{n:Nat}{v:Value}
 (h:Calls P f args (w.drewN n) fun e w'=>e=.returned v/\w.drewN n=w'):Calls P f args (w.drewN n) fun e w''=>e=.returned v/\∃ m,w''=w.drewN m :=
 h.mono fun _ _ ⟨he,hm⟩=>⟨he,n,hm.symm⟩
theorem Zgr {fn:Func}{t u v x:Tmp}(h:fn.results=#[.tmp t,.tmp u,.tmp v,.tmp x])(tmps:Array Value)(P:Program)(w:World) :
 (results fn tmps).run P w=.ok (.tuple #[tmps.getD t undef,tmps.getD u undef,tmps.getD v undef,tmps.getD x undef]) w:=by
 simp[results,h]
theorem Zln {o:Own}{w:World}{sb:Nat}{d:Zac}{s:Zaw}(h:Zal o w sb d s)(hlt:Zah o w)(f:Nat)(hf:f<eMax)(hlo:(d.pool.has (enode f)).lo<eMax)(hhi:(d.pool.has (enode f)).hi<eMax) :
 Calls prog 140 #[.pointer (some ⟨sb,0,none⟩),.int .i64 f] w fun x w'=>x=.returned (if d.pool.tk (enode f)=true then .tuple #[.int .i64 (d.pool.has (enode f)).v,.int .i64 (eflip (d.pool.has (enode f)).lo (eneg f):Nat),.int .i64 (eflip (d.pool.has (enode f)).hi (eneg f):Nat),.bool true] else .tuple #[.int .i64 (-1),.int .i64 0,.int .i64 0,.bool false])/\Below w.heap.size w w':=by
 obtain⟨c0,c1,c2,c3,c4,f0⟩:=cells5 h.blk;have lsb:sb<w.heap.size:=Zab c0;have g6:Hid (∀ W:World,Below w.heap.size w W->W.cell? ⟨sb,1,none⟩=some (.pointer (some ⟨s.pb,0,none⟩))):=Hd (fun W hb=>(hb.cell (p:=⟨sb,1,none⟩) lsb).trans c1);have g2:Hid (∀ W:World,Below w.heap.size w W->Calls prog 160 #[.pointer (some ⟨s.pb,0,none⟩),.int .i64 (enode f:Nat)] W fun x w'=>x=.returned (.tuple #[Zav (d.pool.has (enode f)),.bool (d.pool.tk (enode f))])/\Below W.heap.size W w') :=
  Hd (fun W hb=>Zcr o s.pb d.pool (enode f) W (h.pool.below hb hlt) (hlt.mono hb.size))
 have hz:(0:Int)<=f:=by omega
 have HG:=Hd (fun W=>Zgn f W hf);have g0:=Hd (fun W b=>Zc0 (d.pool.has (enode f)).lo b W hlo);have g1:=Hd (fun W b=>Zc0 (d.pool.has (enode f)).hi b W hhi);have HN:=Hd (fun W=>Zbx f W hf);obtain⟨N,hN⟩:∃ N,N=d.pool.has (enode f):=⟨_,rfl⟩;obtain⟨B,hB⟩:∃ B,B=d.pool.tk (enode f):=⟨_,rfl⟩;obtain⟨k,hk⟩:∃ k,k=enode f:=⟨_,rfl⟩;rw[<- hN] at g2 g0 g1;rw[<- hB,<- hk] at g2;rw[<- hk] at HN;rw[<- hB,<- hN];obtain⟨g,hg⟩:∃ g:Bool,g=eneg f:=⟨_,rfl⟩;rw[<- hg] at HG ⊢;have g0:=Hd (fun W=>g0.out W g);have g1:=Hd (fun W=>g1.out W g);obtain⟨A,hA⟩:∃ A,A=eflip N.lo g:=⟨_,rfl⟩;obtain⟨C,hC⟩:∃ C,C=eflip N.hi g:=⟨_,rfl⟩;rw[<- hA] at g0 ⊢;rw[<- hC] at g1 ⊢;obtain⟨RV,g3⟩:∃ RV:Value,RV=(if B=true then .tuple #[.int .i64 N.v,.int .i64 (A:Nat),.int .i64 (C:Nat),.bool true] else .tuple #[.int .i64 (-1),.int .i64 0,.int .i64 0,.bool false]):=⟨_,rfl⟩;rw[<- g3];have g5:=Hd g3;clear h hlt c0 c1 c2 c3 c4 f0 hN hB hk hf hg hA hC hlo hhi g3
 go_enter func140,ntmps140
 go_upto_region 3 with fail;refine Zeq (w0:=w) (N:=N) (v0:=.pointer (some ⟨sb,0,none⟩)) (v1:=.pointer (some ⟨sb,0,none⟩)) (v2:=.pointer (some ⟨sb,1,none⟩)) (v3:=.pointer (some ⟨s.pb,0,none⟩)) (v4:=.int .i64 f) (v5:=.int .i64 k) (v6:=.tuple #[Zav N,.bool B]) (v7:=.tuple #[Zav N,.bool B]) (v8:=Zav N) (v9:=.bool B) (v12:=.bool B) rfl (by kernel_rfl) (by kernel_rfl) ⟨⟨rfl,rfl,rfl,rfl,rfl,rfl,rfl⟩,rfl,rfl,rfl,rfl,rfl,rfl⟩ rfl (by decide) (Zag w 1) (fun W _=>HN.out W) (fun W hb=>g2.out W hb) (fun W hb=>?_) (fun x W=>?_) (fun x W X hX=>?_) (fun a W=>?_) (fun bx W Y hz hY=>?_) (fun bx W3 g8 g4 g7=>?_)
 . have g9:=g6.out W hb;simp only[Zai];refine⟨?_,?_,?_,?_,?_⟩<;>go_simp
 . simp only[Zai];refine⟨?_,?_⟩<;>go_simp
 . subst hX;simp only[Zai];unfold Zav;refine⟨?_,?_,?_⟩<;>go_simp
 . go_simp
 . subst hY;obtain⟨e0,e1,e2,e3,e4,fz⟩:=cells5 hz;simp only[Zai];unfold Zav;refine⟨⟨_,_,_,rfl,Zby (k:=0) fz e0 e1 e2 e3 e4 _ _ _ _ _⟩,fun W=>?_⟩;go_simp
 simp only[Zai];unfold Zav;obtain⟨y0,y1,y2,y3,y4,yz⟩:=cells5 g7;clear HN g2 g6;cases B
 . go_wp2_with fail;refine bodyPost_ret (Zgr rfl _ _ _) rfl ⟨?_,g4⟩;rw[g5.out];rfl
 ·go_upto_region 6 with fail
  go_quiet ((first|(with_reducible exact Zbj (HG.out _))|(with_reducible exact Zbj (g0.out _))|(with_reducible exact Zbj (g1.out _))))
  go_wp2_with fail;refine bodyPost_ret (Zgr rfl _ _ _) rfl ⟨?_,Zbi g4 _⟩;rw[g5.out];rfl
open Go.RowKit
def bnOf (r:RN):BN:=⟨r.v,r.lo,r.hi⟩
def Zaa (d:Zac):Nat->Option BN:=fun i=>(d.pool.get i).map bnOf
def Zas (d:Zac):Nat->Nat:=fun i=>d.counts.getD i 0
def Zac.cd (d:Zac)(cs:List Nat)(dd:Nat):Zac:={ d with counts:=cs,dead:=dd }
theorem Zax {d:Zac}{i:Nat}{b:BN}(h:Zaa d i=some b):d.pool.tk i=true/\d.pool.has i=d.pool.nd i/\bnOf (d.pool.has i)=b:=by
 unfold Zaa Zak.get at h
 by_cases e:d.pool.tk i=true
 . rw[if_pos e] at h;refine⟨e,by unfold Zak.has;rw[if_pos e],?_⟩;unfold Zak.has;rw[if_pos e];simpa using h
 . rw[if_neg e] at h;cases h
theorem Zgo {d:Zac}{i:Nat}(h:Zaa d i=none):d.pool.tk i=false:=by
 unfold Zaa Zak.get at h
 by_cases e:d.pool.tk i=true
 . rw[if_pos e] at h;cases h
 . simpa using e
structure Acy (N:Nat->Option BN)(rk:Nat->Nat):Prop where
 none0:N 0=none
 okLo:∀ i b,N i=some b->okE N b.lo
 okHi:∀ i b,N i=some b->okE N b.hi
 ltLo:∀ i b c,N i=some b->N (b.lo/2)=some c->rk (b.lo/2)<rk i
 ltHi:∀ i b c,N i=some b->N (b.hi/2)=some c->rk (b.hi/2)<rk i
structure Zb3 (d:Zac)(ext:Nat->Int):Prop where
 cnt:Cnt d.pool.at_.length (Zaa d) (Zas d) ext
 dead:(d.dead:Int)=Zeg d.pool.at_.length (Zaa d) (Zas d)
 has:∀ i b,Zaa d i=some b->i<d.counts.length
theorem Zis {f:Nat->Int}{B:Int}:∀ (k:Nat),(∀ i,i<k->f i<=B)->Zar k f<=k*B
 | 0,_=>by simp[Zar]
 | k+1,h=>by
   have ih:=Zis k (fun i hi=>h i (by omega));have h1:=h k (by omega);have:Zar (k+1) f=Zar k f+f k:=rfl;rw[this];have e:((k+1:Nat):Int)*B=k*B+B:=by rw[Int.natCast_add,Int.add_mul];simp
   omega
theorem Zz6 (N:Nat->Option BN)(c:Nat->Nat)(x p:Nat):from1 N c x p<=2:=by
 unfold from1 Zdv toE;split
 ·split
  . split<;>split<;>omega
  . omega
 . omega
theorem Cnt.le {k:Nat}{N:Nat->Option BN}{c:Nat->Nat}{ext:Nat->Int}(h:Cnt k N c ext){x:Nat}{b:BN}(hx:N x=some b):(c x:Int)<=ext x+2*k:=by
 have h1:=h.eq x b hx;have h2:=Zis (f:=from1 N c x) (B:=2) k (fun i _=>Zz6 N c x i);omega
theorem Zd1 {d:Zac}{x v dd:Nat}(hx:x<d.counts.length):Zas (d.cd (d.counts.set x v) dd)=setC (Zas d) x v:=by
 funext i;unfold Zas setC Zac.cd;dsimp only
 by_cases e:i=x
 . subst e;simp[List.getD,hx]
 . simp only[List.getD,List.getElem?_set,if_neg (Ne.symm e),if_neg e]
section
variable {d:Zac}{ext:Nat->Int}{x:Nat}{b:BN}
theorem Zb3.congr (h:Zb3 d ext){ext':Nat->Int}(he:∀ x b,Zaa d x=some b->ext' x=ext x):Zb3 d ext':=⟨h.cnt.congr he,h.dead,h.has⟩
theorem Zb3.moreLive (h:Zb3 d ext)(hx:Zaa d x=some b)(hc:0<Zas d x):Zb3 (d.cd (d.counts.set x (Zas d x+1)) d.dead) (bump ext x 1):=by
 have hl:=h.has x b hx;refine⟨?_,?_,fun i b' hb=>by simpa [Zac.cd] using h.has i b' hb⟩
 . rw[Zd1 hl];exact h.cnt.moreLive hc
 ·rw[Zd1 hl]
  show (d.dead:Int)=Zeg d.pool.at_.length (Zaa d) _
  rw[Zg4 hx (h.cnt.lt x b hx),<- h.dead,if_neg (by omega),if_neg (by omega)];omega
theorem Zb3.moreDead (h:Zb3 d ext)(hx:Zaa d x=some b)(hc:Zas d x=0):0<d.dead/\Zb3 (d.cd (d.counts.set x 1) (d.dead-1)) (addE (addE (bump ext x 1) b.lo (-1)) b.hi (-1)):=by
 have hl:=h.has x b hx;have hk:=h.cnt.lt x b hx;have h1:=Zg4 (c:=Zas d) (v:=1) hx hk;rw[if_neg (by omega),if_pos hc,<- h.dead] at h1;have h2:0<=Zeg d.pool.at_.length (Zaa d) (setC (Zas d) x 1):=Ze4 _ fun i _=>Zjm _ _ i
 refine⟨by omega,?_,?_,fun i b' hb=>by simpa [Zac.cd] using h.has i b' hb⟩
 . rw[Zd1 hl];exact h.cnt.moreDead hx hc
 ·rw[Zd1 hl]
  show ((d.dead-1:Nat):Int)=Zeg d.pool.at_.length (Zaa d) _
  rw[h1];omega
theorem Zb3.lessLive (h:Zb3 d ext)(hx:Zaa d x=some b)(hc:1<Zas d x):Zb3 (d.cd (d.counts.set x (Zas d x-1)) d.dead) (bump ext x (-1)):=by
 have hl:=h.has x b hx;refine⟨?_,?_,fun i b' hb=>by simpa [Zac.cd] using h.has i b' hb⟩
 . rw[Zd1 hl];exact h.cnt.lessLive hc
 ·rw[Zd1 hl]
  show (d.dead:Int)=Zeg d.pool.at_.length (Zaa d) _
  rw[Zg4 hx (h.cnt.lt x b hx),<- h.dead,if_neg (by omega),if_neg (by omega)];omega
theorem Zb3.lessDies (h:Zb3 d ext)(hx:Zaa d x=some b)(hc:Zas d x=1):Zb3 (d.cd (d.counts.set x 0) (d.dead+1)) (addE (addE (bump ext x (-1)) b.lo 1) b.hi 1):=by
 have hl:=h.has x b hx;have hk:=h.cnt.lt x b hx;have h1:=Zg4 (c:=Zas d) (v:=0) hx hk;rw[if_pos rfl,if_neg (by omega),<- h.dead] at h1;refine⟨?_,?_,fun i b' hb=>by simpa [Zac.cd] using h.has i b' hb⟩
 . rw[Zd1 hl];exact h.cnt.lessDies hx hc
 ·rw[Zd1 hl]
  show ((d.dead+1:Nat):Int)=Zeg d.pool.at_.length (Zaa d) _
  rw[h1];omega
end
def RCnt (r:Role):Prop:=r=.store\/r=.counts
section
variable {o:Own}{w:World}{sb:Nat}{d:Zac}{s:Zaw}
theorem Zal.countsAt (h:Zal o w sb d s){x:Nat}(hx:x<d.counts.length):∃ gc cap,s.vc=.slice (some ⟨gc,0,none⟩) d.counts.length cap/\o gc=some .counts/\gc≠sb/\d.counts.length<=cap/\cap<=maxLen/\(∀ k,w.frozen? ⟨gc,k,none⟩=false) /\
 (∀ k,k<d.counts.length->w.cell? ⟨gc,k,none⟩=some (.int .i64 (Zas d k:Nat))):=by
 obtain⟨gc,cap,hv,ho,h1,h2⟩:=h.counts.shape (by omega);have hr:=h.counts;rw[hv] at hr;refine⟨gc,cap,hv,ho,fun e=>(by subst e;rw[h.own] at ho;cases ho),h1,h2,hr.frozen,fun k hk=>?_⟩;rw[hr.cell k (by simpa using hk),List.getElem?_map,List.getElem?_eq_getElem hk];simp[nat64,Zas,List.getD,hk]
theorem Zal.keepBut (h:Zal o w sb d s){d':Zac}{w':World}{g:Nat}(hg:o g=some .counts\/o g=some .store)(hk:∀ k,k≠g->w'.heap[k]?=w.heap[k]?)
 (hb:∃ dd cs,w'.heap[sb]?=some (.cells #[.pointer (some ⟨s.lb,0,none⟩),.pointer (some ⟨s.pb,0,none⟩),s.vt,s.vc,.int .i64 (dd:Nat)] 188 (0,0))/\RowR o w' .counts 3 1 s.vc cs.length (cs.map nat64)/\d'=d.cd cs dd):Zal o w' sb d' s:=by
 obtain⟨dd,cs,h1,h2,rfl⟩:=hb;have g0:∀ {b r},o b=some r->r ≠ .counts->r ≠ .store->b≠g:=fun hb hr g1 e=>by subst e;rcases hg with hg|hg<;>rw[hb] at hg<;>cases hg<;>contradiction
 exact⟨h.own,h.ownl,h1,(hk _ (g0 h.ownl (by simp) (by simp))).trans h.lev,h.vars.keep (fun b hb=>hk _ (g0 hb (by simp) (by simp))) (fun _ h=>h),h.level.keep (fun b hb=>hk _ (g0 hb (by simp) (by simp))) (fun _ h=>h),
  h.pool.keep (fun b r hb hr=>hk _ (g0 hb (by rcases hr with rfl|rfl|rfl|rfl<;>simp) (by rcases hr with rfl|rfl|rfl|rfl<;>simp))) (fun _ _ h=>h),
  h.tabs.keep (fun b hb=>hk _ (g0 hb (by simp) (by simp))) (fun _ h=>h),
  fun v hv=>(h.tab v hv).keep (fun b r hb hr=>hk _ (g0 hb (by rcases hr with rfl|rfl<;>simp) (by rcases hr with rfl|rfl<;>simp))) (fun _ _ h=>h),h2,h.len,h.tlen⟩
theorem Zal.setCount (h:Zal o w sb d s){gc cap:Nat}(hv:s.vc=.slice (some ⟨gc,0,none⟩) d.counts.length cap)(hne:gc≠sb)(x v:Nat):Zal o (w.setCell ⟨gc,x,none⟩ (.int .i64 v)) sb (d.cd (d.counts.set x v) d.dead) s:=by
 have hr:=h.counts;rw[hv] at hr;refine h.keepBut (g:=gc) (.inl hr.owner) (fun k hk=>Zad hk _) ⟨d.dead,_,(Zad (Ne.symm hne) _).trans h.blk,?_,rfl⟩;have:=hr.stored x (.int .i64 v);rw[hv,List.length_set,List.map_set];exact this
theorem Zal.setDead (h:Zal o w sb d s)(hlt:Zah o w)(dd:Nat):Zal o (w.setCell ⟨sb,4,none⟩ (.int .i64 dd)) sb (d.cd d.counts dd) s:=by
 refine h.keepBut (g:=sb) (.inr h.own) (fun k hk=>Zad hk _) ⟨dd,d.counts,?_,?_,rfl⟩
 . exact Zae (k:=4) h.blk _
 . exact h.counts.keep (fun b hb=>Zad (fun e=>by have e':b=sb:=e;subst e';rw[h.own] at hb;cases hb) _) (fun _ h=>h)
end
open Go.RowKit
theorem Zfi {fn:Func}(h:fn.results=#[])(tmps:Array Value)(P:Program)(w:World):(results fn tmps).run P w=.ok (.tuple #[]) w:=by simp[results,h]
def Zbb (o:Own)(w:World)(sb:Nat)(d:Zac)(s:Zaw)(rk:Nat->Nat)(m:Nat)(less:Bool)(ext':Nat->Int)(e:Ending)(w':World):Prop :=
 ∃ cs dd,e=.returned (.tuple #[])/\Zal o w' sb (d.cd cs dd) s/\Zb3 (d.cd cs dd) ext'/\cs.length=d.counts.length/\(∀ i,m<=rk i->cs.getD i 0=d.counts.getD i 0)/\(less=true->∀ i,cs.getD i 0<=d.counts.getD i 0)/\Chg RCnt o o w w'
structure Zo0 (o:Own)(w:World)(sb:Nat)(d:Zac)(s:Zaw)(rk:Nat->Nat)(ext:Nat->Int)(f:Nat)(m:Nat):Prop where
 st:Zal o w sb d s
 lt:Zah o w
 acy:Acy (Zaa d) rk
 ok:okE (Zaa d) f
 live:Zb3 d ext
 top:∀ y b,Zaa d y=some b->ext y+toE f y<=1099511627776
 low:f/2=0\/rk (f/2)<m
structure Zoy (o:Own)(w:World)(sb:Nat)(d:Zac)(s:Zaw)(rk:Nat->Nat)(ext:Nat->Int)(f:Nat)(m:Nat):Prop where
 st:Zal o w sb d s
 lt:Zah o w
 acy:Acy (Zaa d) rk
 ok:okE (Zaa d) f
 live:Zb3 d ext
 top:∀ y b,Zaa d y=some b->Zas d y<=2199023255552
 pos:∀ y b,Zaa d y=some b->0<=ext y-toE f y
 low:f/2=0\/rk (f/2)<m
theorem Zal.tk_lt {o:Own}{w:World}{sb:Nat}{d:Zac}{s:Zaw}(h:Zal o w sb d s){i:Nat}{b:BN}(hi:Zaa d i=some b):0<i/\i<d.pool.at_.length/\d.pool.at_.length<=1048577:=by
 have h1:=h.pool.tk_lt (Zax hi).1;have h2:=h.pool.top;have h3:=h.pool.room;omega
theorem Zal.edge_lt {o:Own}{w:World}{sb:Nat}{d:Zac}{s:Zaw}(h:Zal o w sb d s){f:Nat}(hf:okE (Zaa d) f):f<2097156:=by
 rcases hf with h0|⟨b,hb⟩
 . omega
 . have:=h.tk_lt hb;omega
theorem Zo3 {ext:Nat->Int}{f:Nat}:addE ext f 1=bump ext (f/2) 1:=by
 funext y;unfold addE bump toE
 by_cases e:f/2=y
 . subst e;simp
 . simp[e,Ne.symm e]
theorem Zmh {ext:Nat->Int}{f:Nat}:addE ext f (-1)=bump ext (f/2) (-1):=by
 funext y;unfold addE bump toE
 by_cases e:f/2=y
 . subst e;simp
 . simp[e,Ne.symm e]
theorem Zx4 {o:Own}{w:World}{sb:Nat}{d:Zac}{s:Zaw}{rk:Nat->Nat}{ext:Nat->Int}{f m:Nat}(h:Zo0 o w sb d s rk ext f m){b:BN}(hx:Zaa d (enode f)=some b)(hc:0<Zas d (enode f)) :
 Calls prog 163 #[.pointer (some ⟨sb,0,none⟩),.int .i64 f] w (Zbb o w sb d s rk m false (addE ext f 1)):=by
 have gj:=h.st.edge_lt h.ok;have hf:f<eMax:=by unfold eMax;omega
 have g5:=h.live.has _ _ hx;obtain⟨gc,cap,hv,ga,g9,gh,ge,gb,g4⟩:=h.st.countsAt g5;obtain⟨c0,c1,c2,c3,c4,f0⟩:=cells5 h.st.blk;rw[hv] at c3;have gd:=g4 _ g5;have gi:=gb (enode f);have gq:=h.live.cnt.le hx;have g6:=h.top _ _ hx;rw[show toE f (enode f)=1 from Zjf f] at g6;have gk:=h.st.tk_lt hx;have g8:=h.st.tk_lt hx;have g3:Hid (∀ i,m<=rk i->(d.counts.set (enode f) (Zas d (enode f)+1)).getD i 0=d.counts.getD i 0):=fun i hi=>by
  have:enode f≠i:=by
   rintro rfl;rcases h.low with h0|h0
   . have:enode f=0:=h0;omega
   . have e:f/2=enode f:=rfl;rw[e] at h0;omega
  simp only[List.getD,List.getElem?_set,if_neg this]
 have g7:Hid (false=true->∀ i,(d.counts.set (enode f) (Zas d (enode f)+1)).getD i 0<=d.counts.getD i 0):=fun e=>(by cases e)
 have g0:Hid (Zal o (w.setCell ⟨gc,enode f,none⟩ (.int .i64 ((Zas d (enode f)+1:Nat):Int))) sb (d.cd (d.counts.set (enode f) (Zas d (enode f)+1)) d.dead) s/\Zb3 (d.cd (d.counts.set (enode f) (Zas d (enode f)+1)) d.dead) (addE ext f 1)) :=
  ⟨h.st.setCount hv g9 _ _,by rw[Zo3];exact h.live.moreLive hx hc⟩
 have g1:=Hd ((Chg.refl RCnt o w).setCell (p:=⟨gc,enode f,none⟩) ga (.inr rfl) (.int .i64 ((Zas d (enode f)+1:Nat):Int)));rw[show ((Zas d (enode f)+1:Nat):Int)=(Zas d (enode f):Nat)+1 from by omega] at g0 g1;have g2:((enode f:Nat):Int)≠0:=by have:=g8.1;omega
 have HN:=Hd (fun W=>Zbx f W hf);have gl:sb≠gc:=fun e=>g9 e.symm
 have gg:((enode f:Nat):Int)<d.counts.length:=by omega
 obtain⟨k,hk⟩:∃ k,k=enode f:=⟨_,rfl⟩;obtain⟨c,gf⟩:∃ c,c=Zas d (enode f):=⟨_,rfl⟩;have gn:c<=2199023255552:=by omega
 have gs:0<c:=by omega
 rw[<- gf] at gd g0 g1 g3 g7;rw[<- hk] at gd gi g0 g1 g2 HN gg g3 g7;have gp:((k:Int) == 0)=false:=by simpa using g2
 have go:0<k:=by omega
 have gm:d.counts.length<=9223372036854775807:=by unfold maxLen at ge;omega
 have gr:(1:Int)<(c:Int)+1:=by omega
 clear h hx hc hv ga gh ge gb g4 hk gf g6 g8 g2 g5 gj hf
 go_enter func163,ntmps163
 go_wp2_with fail;refine(HN.out _).mono ?_;rintro x w' ⟨rfl,rfl⟩;go_wp2_with fail;refine bodyPost_ret (Zfi rfl _ _ _) rfl ⟨_,_,rfl,g0.out.1,g0.out.2,by simp,g3.out,(fun e=>by first|exact absurd e (by decide)|exact g7.out (by simp)),g1.out⟩
theorem Zx5 {o:Own}{w:World}{sb:Nat}{d:Zac}{s:Zaw}{rk:Nat->Nat}{ext:Nat->Int}{f m:Nat}(h:Zo0 o w sb d s rk ext f m)(hx:enode f=0) :
 Calls prog 163 #[.pointer (some ⟨sb,0,none⟩),.int .i64 f] w (Zbb o w sb d s rk m false (addE ext f 1)):=by
 have hf:f<eMax:=by have:=h.st.edge_lt h.ok;unfold eMax;omega
 have g0:Hid (Zbb o w sb d s rk m false (addE ext f 1) (.returned (.tuple #[])) w) :=
  ⟨d.counts,d.dead,rfl,h.st,h.live.congr (fun y b hb=>by
   have:y≠0:=by rintro rfl;rw[h.acy.none0] at hb;cases hb
   have e:f/2=0:=hx;simp[addE,toE,e,Ne.symm this]),rfl,fun _ _=>rfl,fun _ _=>Nat.le_refl _,Chg.refl _ _ _⟩
 have HN:=Hd (fun W=>Zbx f W hf);rw[hx] at HN;clear h hx hf
 go_enter func163,ntmps163
 go_wp2_with fail;refine(HN.out _).mono ?_;rintro x w' ⟨rfl,rfl⟩;go_wp2_with fail;refine bodyPost_ret (Zfi rfl _ _ _) rfl g0.out
theorem Zx3 {o:Own}{w:World}{sb:Nat}{d:Zac}{s:Zaw}{rk:Nat->Nat}{ext:Nat->Int}{f m:Nat}(h:Zo0 o w sb d s rk ext f (m+1)){b:BN}(hx:Zaa d (enode f)=some b)(hc:Zas d (enode f)=0)
 (ih:∀ w d ext f,Zo0 o w sb d s rk ext f m->Calls prog 163 #[.pointer (some ⟨sb,0,none⟩),.int .i64 f] w (Zbb o w sb d s rk m false (addE ext f 1))) :
 Calls prog 163 #[.pointer (some ⟨sb,0,none⟩),.int .i64 f] w (Zbb o w sb d s rk (m+1) false (addE ext f 1)):=by
 have gR:=h.st.edge_lt h.ok;have hf:f<eMax:=by unfold eMax;omega
 have gb:=h.live.has _ _ hx;obtain⟨gc,cap,hv,gs,gf,gN,gz,gt,g5⟩:=h.st.countsAt gb;obtain⟨c0,c1,c2,c3,c4,f0⟩:=cells5 h.st.blk;rw[hv] at c3;have gg:=g5 _ gb;have gu:=gt (enode f);have gp:=h.st.tk_lt hx;obtain⟨gw,gq⟩:=h.live.moreDead hx hc;have gy:d.dead<=1048577:=by
  have h1:=h.live.dead;have h2:=Zis (f:=dead1 (Zaa d) (Zas d)) (B:=1) d.pool.at_.length (fun i _=>by unfold dead1;split<;>first|omega|(split<;>omega));have h3:Zeg d.pool.at_.length (Zaa d) (Zas d)=Zar d.pool.at_.length (dead1 (Zaa d) (Zas d)):=rfl;omega
 have gU:=Hd h.lt;have gm:∀ i,m+1<=rk i->(d.counts.set (enode f) 1).getD i 0=d.counts.getD i 0:=fun i hi=>by
  have:enode f≠i:=by
   rintro rfl;rcases h.low with h0|h0
   . have:enode f=0:=h0;omega
   . have e:f/2=enode f:=rfl;rw[e] at h0;omega
  simp only[List.getD,List.getElem?_set,if_neg this]
 have gB:false=true->∀ i,(d.counts.set (enode f) 1).getD i 0<=d.counts.getD i 0:=fun e=>(by cases e)
 have gL:rk (enode f)<=m:=by
  rcases h.low with h0|h0
  . have:enode f=0:=h0;omega
  . have e:f/2=enode f:=rfl;rw[e] at h0;omega
 have g3:∀ e,(okE (Zaa d) e)->(∀ c,Zaa d (e/2)=some c->rk (e/2)<rk (enode f))->e/2=0\/rk (e/2)<m:=fun e ho hr=>by
  rcases ho with h0|⟨c,hc⟩
  . exact .inl h0
  . exact .inr (by have:=hr c hc;omega)
 have st1:Zal o (w.setCell ⟨gc,enode f,none⟩ (.int .i64 ((1:Nat):Int))) sb (d.cd (d.counts.set (enode f) 1) d.dead) s:=h.st.setCount hv gf _ _;have g2:Zah o (w.setCell ⟨gc,enode f,none⟩ (.int .i64 ((1:Nat):Int))):=h.lt.mono (by simp[World.setCell]);have st2:Zal o ((w.setCell ⟨gc,enode f,none⟩ (.int .i64 ((1:Nat):Int))).setCell ⟨sb,4,none⟩ (.int .i64 ((d.dead-1:Nat):Int))) sb (d.cd (d.counts.set (enode f) 1) (d.dead-1)) s:=st1.setDead g2 _;have gn:=Hd (((Chg.refl RCnt o w).setCell (p:=⟨gc,enode f,none⟩) gs (.inr rfl) (.int .i64 ((1:Nat):Int))).setCell (p:=⟨sb,4,none⟩) h.st.own (.inl rfl) (.int .i64 ((d.dead-1:Nat):Int)));have g0:Zah o ((w.setCell ⟨gc,enode f,none⟩ (.int .i64 ((1:Nat):Int))).setCell ⟨sb,4,none⟩ (.int .i64 ((d.dead-1:Nat):Int))):=g2.mono (by simp[World.setCell]);have ge:=Zax hx;have gS:∃ N,N=d.pool.has (enode f)/\N.lo=b.lo/\N.hi=b.hi:=⟨_,rfl,by rw[<- ge.2.2];rfl,by rw[<- ge.2.2];rfl⟩;have gv:addE (addE (addE (addE (bump ext (enode f) 1) b.lo (-1)) b.hi (-1)) b.lo 1) b.hi 1=addE ext f 1:=by
  funext y;have h1:=congrFun (Zo3 (ext:=ext) (f:=f)) y;have h2:enode f=f/2:=rfl;rw[h2,h1];simp only[addE];omega
 obtain⟨W2,gj⟩:∃ W,W=(w.setCell ⟨gc,enode f,none⟩ (.int .i64 ((1:Nat):Int))).setCell ⟨sb,4,none⟩ (.int .i64 ((d.dead-1:Nat):Int)):=⟨_,rfl⟩;rw[<- gj] at st2 gn g0;have gI:=Hd g0;have g1:Hid (∀ W:World,Below W2.heap.size W2 W->Calls prog 160 #[.pointer (some ⟨s.pb,0,none⟩),.int .i64 (enode f:Nat)] W fun x w'=>x=.returned (.tuple #[Zav (d.pool.has (enode f)),.bool (d.pool.tk (enode f))])/\Below W.heap.size W w') :=
  Hd (fun W hb=>Zcr o s.pb d.pool (enode f) W (st2.pool.below hb g0) (g0.mono hb.size))
 have gY:Hid (∀ W:World,Below W2.heap.size W2 W->W.cell? ⟨sb,1,none⟩=some (.pointer (some ⟨s.pb,0,none⟩))):=Hd (fun W hb=>(cells5 (st2.below g0 hb).blk).2.1);have gA:Hid (∀ W:World,Below W2.heap.size W2 W->Calls prog 163 #[.pointer (some ⟨sb,0,none⟩),.int .i64 (b.lo:Nat)] W (Zbb o W sb (d.cd (d.counts.set (enode f) 1) (d.dead-1)) s rk m false (addE (addE (addE (bump ext (enode f) 1) b.lo (-1)) b.hi (-1)) b.lo 1))) :=
  Hd (fun W hb=>ih W _ _ b.lo ⟨st2.below g0 hb,g0.mono hb.size,h.acy,h.acy.okLo _ _ hx,gq,fun y q hq=>by
   have h1:=h.top y q hq;have h2:toE f y=if enode f=y then 1 else 0:=rfl
   have h3:=Zbu b.lo y;have h4:=Zbu b.hi y;simp only[addE,bump]
   by_cases e:y=enode f
   . rw[if_pos e.symm] at h2;rw[if_pos e];omega
   . rw[if_neg (Ne.symm e)] at h2;rw[if_neg e];omega,g3 b.lo (h.acy.okLo _ _ hx) (fun c hc=>h.acy.ltLo _ _ c hx hc)⟩)
 have gD:Hid (∀ (W:World) (cs:List Nat) (dd:Nat),Zal o W sb ((d.cd (d.counts.set (enode f) 1) (d.dead-1)).cd cs dd) s->Zb3 ((d.cd (d.counts.set (enode f) 1) (d.dead-1)).cd cs dd) (addE (addE (addE (bump ext (enode f) 1) b.lo (-1)) b.hi (-1)) b.lo 1)->(false=true->∀ i,cs.getD i 0<=(d.counts.set (enode f) 1).getD i 0)->Chg RCnt o o w W ->
  Calls prog 163 #[.pointer (some ⟨sb,0,none⟩),.int .i64 (b.hi:Nat)] W (Zbb o W sb ((d.cd (d.counts.set (enode f) 1) (d.dead-1)).cd cs dd) s rk m false (addE ext f 1))) :=
  Hd (fun W cs dd hs hl gr gh=>by
   rw[<- gv]
   exact ih W _ _ b.hi ⟨hs,gU.out.mono gh.size,h.acy,h.acy.okHi _ _ hx,hl,fun y q hq=>by
    have h1:=h.top y q hq;have h2:toE f y=if enode f=y then 1 else 0:=rfl
    have h3:=Zbu b.lo y;have h4:=Zbu b.hi y;simp only[addE,bump]
    by_cases e:y=enode f
    . rw[if_pos e.symm] at h2;rw[if_pos e];omega
    . rw[if_neg (Ne.symm e)] at h2;rw[if_neg e];omega,g3 b.hi (h.acy.okHi _ _ hx) (fun c hc=>h.acy.ltHi _ _ c hx hc)⟩)
 have gK:Hid (∀ (W:World) (cs:List Nat) (dd:Nat),Zal o W sb (d.cd cs dd) s->Zb3 (d.cd cs dd) (addE ext f 1)->cs.length=(d.counts.set (enode f) 1).length->(∀ i,m+1<=rk i->cs.getD i 0=(d.counts.set (enode f) 1).getD i 0)->(false=true->∀ i,cs.getD i 0<=(d.counts.set (enode f) 1).getD i 0)->Chg RCnt o o w W ->
  Zbb o w sb d s rk (m+1) false (addE ext f 1) (.returned (.tuple #[])) W) :=
  fun W cs dd hs hl gG gM gr gh=>⟨cs,dd,rfl,hs,hl,by rw[gG];simp,fun i hi=>(gM i hi).trans (gm i hi),fun e i=>Nat.le_trans (gr e i) (gB e i),gh⟩
 have g9:Hid (W2=(w.setCell ⟨gc,enode f,none⟩ (.int .i64 1)).setCell ⟨sb,4,none⟩ (.int .i64 ((d.dead:Int)-1))):=by
  show _=_
  rw[gj,show ((d.dead-1:Nat):Int)=(d.dead:Int)-1 from by omega];rfl
 have g4:((enode f:Nat):Int)≠0:=by have:=gp.1;omega
 have HN:=Hd (fun W=>Zbx f W hf);have gF:sb≠gc:=fun e=>gf e.symm
 have ga:((enode f:Nat):Int)<d.counts.length:=by omega
 obtain⟨N,hN,gk,gl⟩:=gS;rw[<- hN] at g1;rw[<- gk,<- gl] at gA gD;obtain⟨B,hB⟩:∃ B,B=d.pool.tk (enode f):=⟨_,rfl⟩;rw[<- hB] at g1;rw[hc] at gg;obtain⟨k,hk⟩:∃ k,k=enode f:=⟨_,rfl⟩;rw[<- hk] at gg gu g1 g4 HN ga g9;have gP:((k:Int) == 0)=false:=by simpa using g4
 have gO:0<k:=by omega
 have gH:d.counts.length<=9223372036854775807:=by unfold maxLen at gz;omega
 obtain⟨dn,gx⟩:∃ n,n=d.dead:=⟨_,rfl⟩;rw[<- gx] at c4 gy g9 gw;clear ih h hx hc hv gs gN gz gt g5 gp g4 gb gR hf gq st1 st2 g2 g0 gm gB gL g3 gj gv hN gk gl hB gx ge hk
 go_enter func163,ntmps163
 go_wp2_with fail;refine(HN.out _).mono ?_;rintro x w' ⟨rfl,rfl⟩;go_wp2_with fail;rw[<- g9.out];refine(g1.out W2 (Below.refl _ _)).mono ?_;rintro x v2 ⟨rfl,g7⟩;unfold Zav;clear g9 c0 c1 c2 c3 c4 f0 gg gu HN gf gF ga gP gO gH gy gw;go_wp2_with fail;obtain⟨W3,g8⟩:∃ W,W=v2.alloc (.cells #[.int .i64 N.id,.int .i64 N.v,.int .i64 N.lo,.int .i64 N.hi,.int .i64 N.refs] 236):=⟨_,rfl⟩;obtain⟨bx,g6⟩:∃ bx,bx=v2.heap.size:=⟨_,rfl⟩;have gQ:W2.heap.size<=bx:=by rw[g6];exact g7.size
 have gi:Below W2.heap.size W2 W3:=by rw[g8];exact g7.alloc g7.size _
 have gd:W3.heap[bx]?=some (.cells #[.int .i64 N.id,.int .i64 N.v,.int .i64 N.lo,.int .i64 N.hi,.int .i64 N.refs] 236 (0,0)):=by rw[g8,g6];exact heap_alloc_new v2 _
 rw[<- g8];rw[<- g6];clear g8 g6 g7 g1 gY;refine(gA.out _ gi).mono ?_;rintro x w1 ⟨cs1,dd1,rfl,st1,lv1,len1,low1,le1,chg1⟩;have go:=(chg1.alien (Array.getElem?_eq_some_iff.1 gd).1 (gI.out.none gQ)).trans gd;obtain⟨z0,z1,z2,z3,z4,zz⟩:=cells5 go;have gT:=Hd st1;have gV:=Hd lv1;have gX:=Hd len1;have HW1:=Hd low1;have gC:=Hd le1;have gE:=Hd ((gn.out.trans (Chg.of_below gi RCnt o)).trans chg1);clear st1 lv1 len1 low1 le1 chg1 gd go gi;go_wp2_with fail;refine(gD.out w1 cs1 dd1 gT.out gV.out (fun e=>by first|exact absurd e (by decide)|exact gC.out (by simp)) gE.out).mono ?_;rintro x w2 ⟨cs2,dd2,rfl,st2,lv2,len2,low2,le2,chg2⟩;have gJ:=Hd (gK.out w2 cs2 dd2 st2 lv2 (len2.trans gX.out) (fun i hi=>(low2 i (by omega)).trans (HW1.out i (by omega))) (fun e i=>by first|exact absurd e (by decide)|exact Nat.le_trans (le2 (by simp) i) (gC.out (by simp) i)) (gE.out.trans chg2));clear st2 lv2 len2 low2 le2 chg2;go_wp2_with fail;refine bodyPost_end (Zfi rfl _ _ _) rfl gJ.out
theorem Zf0 (o:Own)(sb:Nat)(s:Zaw)(rk:Nat->Nat):∀ (m:Nat) (w:World) (d:Zac) (ext:Nat->Int) (f:Nat),Zo0 o w sb d s rk ext f m ->
 Calls prog 163 #[.pointer (some ⟨sb,0,none⟩),.int .i64 f] w (Zbb o w sb d s rk m false (addE ext f 1))
 | m,w,d,ext,f,h=>by
   by_cases h0:enode f=0
   . exact Zx5 h h0
   ·obtain⟨b,hx⟩:∃ b,Zaa d (enode f)=some b:=h.ok.resolve_left h0
    by_cases hc:0<Zas d (enode f)
    . exact Zx4 h hx hc
    ·cases m with
     | zero=>exact absurd (h.low.resolve_left h0) (by omega)
     | succ m=>exact Zx3 h hx (by omega) (Zf0 o sb s rk m)
open Go.RowKit
theorem Zxt {o:Own}{w:World}{sb:Nat}{d:Zac}{s:Zaw}{rk:Nat->Nat}{ext:Nat->Int}{f m:Nat}(h:Zoy o w sb d s rk ext f m){b:BN}(hx:Zaa d (enode f)=some b)(hc:1<Zas d (enode f)) :
 Calls prog 162 #[.pointer (some ⟨sb,0,none⟩),.int .i64 f] w (Zbb o w sb d s rk m true (addE ext f (-1))):=by
 have gj:=h.st.edge_lt h.ok;have hf:f<eMax:=by unfold eMax;omega
 have g4:=h.live.has _ _ hx;obtain⟨gc,cap,hv,g9,g8,gh,gd,ga,g5⟩:=h.st.countsAt g4;obtain⟨c0,c1,c2,c3,c4,f0⟩:=cells5 h.st.blk;rw[hv] at c3;have gb:=g5 _ g4;have gi:=ga (enode f);have gg:=h.top (enode f) _ hx;have g7:=h.st.tk_lt hx;have g3:Hid (∀ i,m<=rk i->(d.counts.set (enode f) (Zas d (enode f)-1)).getD i 0=d.counts.getD i 0):=fun i hi=>by
  have:enode f≠i:=by
   rintro rfl;rcases h.low with h0|h0
   . have:enode f=0:=h0;omega
   . have e:f/2=enode f:=rfl;rw[e] at h0;omega
  simp only[List.getD,List.getElem?_set,if_neg this]
 have g6:Hid (true=true->∀ i,(d.counts.set (enode f) (Zas d (enode f)-1)).getD i 0<=d.counts.getD i 0):=fun _ i=>by
  by_cases e:enode f=i
  . subst e;simp only[List.getD,List.getElem?_set];simp[g4,Zas,List.getD]
  . simp only[List.getD,List.getElem?_set,if_neg e];omega
 have g0:Hid (Zal o (w.setCell ⟨gc,enode f,none⟩ (.int .i64 ((Zas d (enode f)-1:Nat):Int))) sb (d.cd (d.counts.set (enode f) (Zas d (enode f)-1)) d.dead) s/\Zb3 (d.cd (d.counts.set (enode f) (Zas d (enode f)-1)) d.dead) (addE ext f (-1))) :=
  ⟨h.st.setCount hv g8 _ _,by rw[Zmh];exact h.live.lessLive hx hc⟩
 have g1:=Hd ((Chg.refl RCnt o w).setCell (p:=⟨gc,enode f,none⟩) g9 (.inr rfl) (.int .i64 ((Zas d (enode f)-1:Nat):Int)));rw[show ((Zas d (enode f)-1:Nat):Int)=(Zas d (enode f):Nat)-1 from by omega] at g0 g1;have g2:((enode f:Nat):Int)≠0:=by have:=g7.1;omega
 have HN:=Hd (fun W=>Zbx f W hf);have gk:sb≠gc:=fun e=>g8 e.symm
 have gf:((enode f:Nat):Int)<d.counts.length:=by omega
 obtain⟨k,hk⟩:∃ k,k=enode f:=⟨_,rfl⟩;obtain⟨c,ge⟩:∃ c,c=Zas d (enode f):=⟨_,rfl⟩;have gm:c<=2199023255552:=by omega
 have gq:1<c:=by omega
 rw[<- ge] at gb g0 g1 g3 g6;rw[<- hk] at gb gi g0 g1 g2 HN gf g3 g6;have go:((k:Int) == 0)=false:=by simpa using g2
 have gn:0<k:=by omega
 have gl:d.counts.length<=9223372036854775807:=by unfold maxLen at gd;omega
 have gp:(1:Int)<(c:Int):=by omega
 clear h hx hc hv g9 gh gd ga g5 hk ge gg g7 g2 g4 gj hf
 go_enter func162,ntmps162
 go_wp2_with fail;refine(HN.out _).mono ?_;rintro x w' ⟨rfl,rfl⟩;go_wp2_with fail;refine bodyPost_ret (Zfi rfl _ _ _) rfl ⟨_,_,rfl,g0.out.1,g0.out.2,by simp,g3.out,(fun e=>by first|exact absurd e (by decide)|exact g6.out (by simp)),g1.out⟩
theorem Zxu {o:Own}{w:World}{sb:Nat}{d:Zac}{s:Zaw}{rk:Nat->Nat}{ext:Nat->Int}{f m:Nat}(h:Zoy o w sb d s rk ext f m)(hx:enode f=0) :
 Calls prog 162 #[.pointer (some ⟨sb,0,none⟩),.int .i64 f] w (Zbb o w sb d s rk m true (addE ext f (-1))):=by
 have hf:f<eMax:=by have:=h.st.edge_lt h.ok;unfold eMax;omega
 have g0:Hid (Zbb o w sb d s rk m true (addE ext f (-1)) (.returned (.tuple #[])) w) :=
  ⟨d.counts,d.dead,rfl,h.st,h.live.congr (fun y b hb=>by
   have:y≠0:=by rintro rfl;rw[h.acy.none0] at hb;cases hb
   have e:f/2=0:=hx;simp[addE,toE,e,Ne.symm this]),rfl,fun _ _=>rfl,fun _ _=>Nat.le_refl _,Chg.refl _ _ _⟩
 have HN:=Hd (fun W=>Zbx f W hf);rw[hx] at HN;clear h hx hf
 go_enter func162,ntmps162
 go_wp2_with fail;refine(HN.out _).mono ?_;rintro x w' ⟨rfl,rfl⟩;go_wp2_with fail;refine bodyPost_ret (Zfi rfl _ _ _) rfl g0.out
theorem Zxs {o:Own}{w:World}{sb:Nat}{d:Zac}{s:Zaw}{rk:Nat->Nat}{ext:Nat->Int}{f m:Nat}(h:Zoy o w sb d s rk ext f (m+1)){b:BN}(hx:Zaa d (enode f)=some b)(hc:Zas d (enode f)=1)
 (ih:∀ w d ext f,Zoy o w sb d s rk ext f m->Calls prog 162 #[.pointer (some ⟨sb,0,none⟩),.int .i64 f] w (Zbb o w sb d s rk m true (addE ext f (-1)))) :
 Calls prog 162 #[.pointer (some ⟨sb,0,none⟩),.int .i64 f] w (Zbb o w sb d s rk (m+1) true (addE ext f (-1))):=by
 have gQ:=h.st.edge_lt h.ok;have hf:f<eMax:=by unfold eMax;omega
 have g5:=h.live.has _ _ hx;obtain⟨gc,cap,hv,gt,gg,gM,gz,gu,g6⟩:=h.st.countsAt g5;obtain⟨c0,c1,c2,c3,c4,f0⟩:=cells5 h.st.blk;rw[hv] at c3;have gi:=g6 _ g5;have gv:=gu (enode f);have gr:=h.st.tk_lt hx;have gs:=h.live.lessDies hx hc;have gy:d.dead<=1048577:=by
  have h1:=h.live.dead;have h2:=Zis (f:=dead1 (Zaa d) (Zas d)) (B:=1) d.pool.at_.length (fun i _=>by unfold dead1;split<;>first|omega|(split<;>omega));have h3:Zeg d.pool.at_.length (Zaa d) (Zas d)=Zar d.pool.at_.length (dead1 (Zaa d) (Zas d)):=rfl;omega
 have gT:=Hd h.lt;have go:∀ i,m+1<=rk i->(d.counts.set (enode f) 0).getD i 0=d.counts.getD i 0:=fun i hi=>by
  have:enode f≠i:=by
   rintro rfl;rcases h.low with h0|h0
   . have:enode f=0:=h0;omega
   . have e:f/2=enode f:=rfl;rw[e] at h0;omega
  simp only[List.getD,List.getElem?_set,if_neg this]
 have gb:true=true->∀ i,(d.counts.set (enode f) 0).getD i 0<=d.counts.getD i 0:=fun _ i=>by
  by_cases e:enode f=i
  . subst e;simp only[List.getD,List.getElem?_set];simp[g5]
  . simp only[List.getD,List.getElem?_set,if_neg e];omega
 have gK:rk (enode f)<=m:=by
  rcases h.low with h0|h0
  . have:enode f=0:=h0;omega
  . have e:f/2=enode f:=rfl;rw[e] at h0;omega
 have g3:∀ e,(okE (Zaa d) e)->(∀ c,Zaa d (e/2)=some c->rk (e/2)<rk (enode f))->e/2=0\/rk (e/2)<m:=fun e ho hr=>by
  rcases ho with h0|⟨c,hc⟩
  . exact .inl h0
  . exact .inr (by have:=hr c hc;omega)
 have st1:Zal o (w.setCell ⟨gc,enode f,none⟩ (.int .i64 ((0:Nat):Int))) sb (d.cd (d.counts.set (enode f) 0) d.dead) s:=h.st.setCount hv gg _ _;have g2:Zah o (w.setCell ⟨gc,enode f,none⟩ (.int .i64 ((0:Nat):Int))):=h.lt.mono (by simp[World.setCell]);have st2:Zal o ((w.setCell ⟨gc,enode f,none⟩ (.int .i64 ((0:Nat):Int))).setCell ⟨sb,4,none⟩ (.int .i64 ((d.dead+1:Nat):Int))) sb (d.cd (d.counts.set (enode f) 0) (d.dead+1)) s:=st1.setDead g2 _;have gp:=Hd (((Chg.refl RCnt o w).setCell (p:=⟨gc,enode f,none⟩) gt (.inr rfl) (.int .i64 ((0:Nat):Int))).setCell (p:=⟨sb,4,none⟩) h.st.own (.inl rfl) (.int .i64 ((d.dead+1:Nat):Int)));have g0:Zah o ((w.setCell ⟨gc,enode f,none⟩ (.int .i64 ((0:Nat):Int))).setCell ⟨sb,4,none⟩ (.int .i64 ((d.dead+1:Nat):Int))):=g2.mono (by simp[World.setCell]);have gf:=Zax hx;have gR:∃ N,N=d.pool.has (enode f)/\N.lo=b.lo/\N.hi=b.hi:=⟨_,rfl,by rw[<- gf.2.2];rfl,by rw[<- gf.2.2];rfl⟩;have gw:addE (addE (addE (addE (bump ext (enode f) (-1)) b.lo 1) b.hi 1) b.lo (-1)) b.hi (-1)=addE ext f (-1):=by
  funext y;have h1:=congrFun (Zmh (ext:=ext) (f:=f)) y;have h2:enode f=f/2:=rfl;rw[h2,h1];simp only[addE];omega
 obtain⟨W2,gl⟩:∃ W,W=(w.setCell ⟨gc,enode f,none⟩ (.int .i64 ((0:Nat):Int))).setCell ⟨sb,4,none⟩ (.int .i64 ((d.dead+1:Nat):Int)):=⟨_,rfl⟩;rw[<- gl] at st2 gp g0;have gH:=Hd g0;have g1:Hid (∀ W:World,Below W2.heap.size W2 W->Calls prog 160 #[.pointer (some ⟨s.pb,0,none⟩),.int .i64 (enode f:Nat)] W fun x w'=>x=.returned (.tuple #[Zav (d.pool.has (enode f)),.bool (d.pool.tk (enode f))])/\Below W.heap.size W w') :=
  Hd (fun W hb=>Zcr o s.pb d.pool (enode f) W (st2.pool.below hb g0) (g0.mono hb.size))
 have gX:Hid (∀ W:World,Below W2.heap.size W2 W->W.cell? ⟨sb,1,none⟩=some (.pointer (some ⟨s.pb,0,none⟩))):=Hd (fun W hb=>(cells5 (st2.below g0 hb).blk).2.1);have gA:Hid (∀ W:World,Below W2.heap.size W2 W->Calls prog 162 #[.pointer (some ⟨sb,0,none⟩),.int .i64 (b.lo:Nat)] W (Zbb o W sb (d.cd (d.counts.set (enode f) 0) (d.dead+1)) s rk m true (addE (addE (addE (bump ext (enode f) (-1)) b.lo 1) b.hi 1) b.lo (-1)))) :=
  Hd (fun W hb=>ih W _ _ b.lo ⟨st2.below g0 hb,g0.mono hb.size,h.acy,h.acy.okLo _ _ hx,gs,fun y q hq=>Nat.le_trans (gb rfl y) (h.top y q hq),fun y q hq=>by
   have h1:=h.pos y q hq;have h2:toE f y=if enode f=y then 1 else 0:=rfl
   have h3:=Zbu b.lo y;have h4:=Zbu b.hi y;simp only[addE,bump]
   by_cases e:y=enode f
   . rw[if_pos e.symm] at h2;rw[if_pos e];omega
   . rw[if_neg (Ne.symm e)] at h2;rw[if_neg e];omega,g3 b.lo (h.acy.okLo _ _ hx) (fun c hc=>h.acy.ltLo _ _ c hx hc)⟩)
 have gC:Hid (∀ (W:World) (cs:List Nat) (dd:Nat),Zal o W sb ((d.cd (d.counts.set (enode f) 0) (d.dead+1)).cd cs dd) s->Zb3 ((d.cd (d.counts.set (enode f) 0) (d.dead+1)).cd cs dd) (addE (addE (addE (bump ext (enode f) (-1)) b.lo 1) b.hi 1) b.lo (-1))->(true=true->∀ i,cs.getD i 0<=(d.counts.set (enode f) 0).getD i 0)->Chg RCnt o o w W ->
  Calls prog 162 #[.pointer (some ⟨sb,0,none⟩),.int .i64 (b.hi:Nat)] W (Zbb o W sb ((d.cd (d.counts.set (enode f) 0) (d.dead+1)).cd cs dd) s rk m true (addE ext f (-1)))) :=
  Hd (fun W cs dd hs hl gh gj=>by
   rw[<- gw]
   exact ih W _ _ b.hi ⟨hs,gT.out.mono gj.size,h.acy,h.acy.okHi _ _ hx,hl,fun y q hq=>Nat.le_trans (Nat.le_trans (gh rfl y) (gb rfl y)) (h.top y q hq),fun y q hq=>by
    have h1:=h.pos y q hq;have h2:toE f y=if enode f=y then 1 else 0:=rfl
    have h3:=Zbu b.lo y;have h4:=Zbu b.hi y;simp only[addE,bump]
    by_cases e:y=enode f
    . rw[if_pos e.symm] at h2;rw[if_pos e];omega
    . rw[if_neg (Ne.symm e)] at h2;rw[if_neg e];omega,g3 b.hi (h.acy.okHi _ _ hx) (fun c hc=>h.acy.ltHi _ _ c hx hc)⟩)
 have gJ:Hid (∀ (W:World) (cs:List Nat) (dd:Nat),Zal o W sb (d.cd cs dd) s->Zb3 (d.cd cs dd) (addE ext f (-1))->cs.length=(d.counts.set (enode f) 0).length->(∀ i,m+1<=rk i->cs.getD i 0=(d.counts.set (enode f) 0).getD i 0)->(true=true->∀ i,cs.getD i 0<=(d.counts.set (enode f) 0).getD i 0)->Chg RCnt o o w W ->
  Zbb o w sb d s rk (m+1) true (addE ext f (-1)) (.returned (.tuple #[])) W) :=
  fun W cs dd hs hl gF gL gh gj=>⟨cs,dd,rfl,hs,hl,by rw[gF];simp,fun i hi=>(gL i hi).trans (go i hi),fun e i=>Nat.le_trans (gh e i) (gb e i),gj⟩
 have ga:Hid (W2=(w.setCell ⟨gc,enode f,none⟩ (.int .i64 0)).setCell ⟨sb,4,none⟩ (.int .i64 ((d.dead:Int)+1))):=by
  show _=_
  rw[gl,show ((d.dead+1:Nat):Int)=(d.dead:Int)+1 from by omega];rfl
 have g4:((enode f:Nat):Int)≠0:=by have:=gr.1;omega
 have HN:=Hd (fun W=>Zbx f W hf);have gE:sb≠gc:=fun e=>gg e.symm
 have gd:((enode f:Nat):Int)<d.counts.length:=by omega
 obtain⟨N,hN,gm,gn⟩:=gR;rw[<- hN] at g1;rw[<- gm,<- gn] at gA gC;obtain⟨B,hB⟩:∃ B,B=d.pool.tk (enode f):=⟨_,rfl⟩;rw[<- hB] at g1;rw[hc] at gi;obtain⟨k,hk⟩:∃ k,k=enode f:=⟨_,rfl⟩;rw[<- hk] at gi gv g1 g4 HN gd ga;have gO:((k:Int) == 0)=false:=by simpa using g4
 have gN:0<k:=by omega
 have gG:d.counts.length<=9223372036854775807:=by unfold maxLen at gz;omega
 obtain⟨dn,gx⟩:∃ n,n=d.dead:=⟨_,rfl⟩;rw[<- gx] at c4 gy ga;clear ih h hx hc hv gt gM gz gu g6 gr g4 g5 gQ hf gs st1 st2 g2 g0 go gb gK g3 gl gw hN gm gn hB gx gf hk
 go_enter func162,ntmps162
 go_wp2_with fail;refine(HN.out _).mono ?_;rintro x w' ⟨rfl,rfl⟩;go_wp2_with fail;rw[<- ga.out];refine(g1.out W2 (Below.refl _ _)).mono ?_;rintro x v2 ⟨rfl,g8⟩;unfold Zav;clear ga c0 c1 c2 c3 c4 f0 gi gv HN gg gE gd gO gN gG gy;go_wp2_with fail;obtain⟨W3,g9⟩:∃ W,W=v2.alloc (.cells #[.int .i64 N.id,.int .i64 N.v,.int .i64 N.lo,.int .i64 N.hi,.int .i64 N.refs] 236):=⟨_,rfl⟩;obtain⟨bx,g7⟩:∃ bx,bx=v2.heap.size:=⟨_,rfl⟩;have gP:W2.heap.size<=bx:=by rw[g7];exact g8.size
 have gk:Below W2.heap.size W2 W3:=by rw[g9];exact g8.alloc g8.size _
 have ge:W3.heap[bx]?=some (.cells #[.int .i64 N.id,.int .i64 N.v,.int .i64 N.lo,.int .i64 N.hi,.int .i64 N.refs] 236 (0,0)):=by rw[g9,g7];exact heap_alloc_new v2 _
 rw[<- g9];rw[<- g7];clear g9 g7 g8 g1 gX;refine(gA.out _ gk).mono ?_;rintro x w1 ⟨cs1,dd1,rfl,st1,lv1,len1,low1,le1,chg1⟩;have gq:=(chg1.alien (Array.getElem?_eq_some_iff.1 ge).1 (gH.out.none gP)).trans ge;obtain⟨z0,z1,z2,z3,z4,zz⟩:=cells5 gq;have gS:=Hd st1;have gU:=Hd lv1;have gV:=Hd len1;have HW1:=Hd low1;have gB:=Hd le1;have gD:=Hd ((gp.out.trans (Chg.of_below gk RCnt o)).trans chg1);clear st1 lv1 len1 low1 le1 chg1 ge gq gk;go_wp2_with fail;refine(gC.out w1 cs1 dd1 gS.out gU.out (fun e=>by first|exact absurd e (by decide)|exact gB.out (by simp)) gD.out).mono ?_;rintro x w2 ⟨cs2,dd2,rfl,st2,lv2,len2,low2,le2,chg2⟩;have gI:=Hd (gJ.out w2 cs2 dd2 st2 lv2 (len2.trans gV.out) (fun i hi=>(low2 i (by omega)).trans (HW1.out i (by omega))) (fun e i=>by first|exact absurd e (by decide)|exact Nat.le_trans (le2 (by simp) i) (gB.out (by simp) i)) (gD.out.trans chg2));clear st2 lv2 len2 low2 le2 chg2;go_wp2_with fail;refine bodyPost_end (Zfi rfl _ _ _) rfl gI.out
theorem Zfz (o:Own)(sb:Nat)(s:Zaw)(rk:Nat->Nat):∀ (m:Nat) (w:World) (d:Zac) (ext:Nat->Int) (f:Nat),Zoy o w sb d s rk ext f m ->
 Calls prog 162 #[.pointer (some ⟨sb,0,none⟩),.int .i64 f] w (Zbb o w sb d s rk m true (addE ext f (-1)))
 | m,w,d,ext,f,h=>by
   by_cases h0:enode f=0
   . exact Zxu h h0
   ·obtain⟨b,hx⟩:∃ b,Zaa d (enode f)=some b:=h.ok.resolve_left h0
    have hp:0<Zas d (enode f):=h.live.cnt.pos_of_ext hx (by
     have h1:=h.pos _ _ hx;rw[show toE f (enode f)=1 from Zjf f] at h1;omega)
    by_cases hc:1<Zas d (enode f)
    . exact Zxt h hx hc
    ·cases m with
     | zero=>exact absurd (h.low.resolve_left h0) (by omega)
     | succ m=>exact Zxs h hx (by omega) (Zfz o sb s rk m)
open Go.RowKit
def Ze7 (r:Role):Prop:=r=.pool\/r=.slots\/r=.taken\/r=.free
def Zan (r:Role):Prop:=r=.store\/r=.levels\/r=.vars\/r=.level\/Ze7 r\/r=.tabs\/(∃ v,r=.tab v\/r=.tmap v)\/r=.counts
section
variable {o o':Own}{w w':World}{sb:Nat}{d:Zac}{s:Zaw}
theorem Zal.setPool (h:Zal o w sb d s)(hlt:Zah o w){p':Zak}(hp:Zap o' w' s.pb p')(hc:Chg Ze7 o o' w w'):Zal o' w' sb { d with pool:=p' } s:=by
 have n:∀ {r},r ≠ .pool->r ≠ .slots->r ≠ .taken->r ≠ .free->¬ Ze7 r:=fun a b c d h=>by rcases h with h|h|h|h<;>contradiction
 exact⟨hc.ext _ _ h.own,hc.ext _ _ h.ownl,(hc.same hlt h.own (n (by simp) (by simp) (by simp) (by simp))).trans h.blk,(hc.same hlt h.ownl (n (by simp) (by simp) (by simp) (by simp))).trans h.lev,
  h.vars.chg hc hlt (n (by simp) (by simp) (by simp) (by simp)),h.level.chg hc hlt (n (by simp) (by simp) (by simp) (by simp)),hp,h.tabs.chg hc hlt (n (by simp) (by simp) (by simp) (by simp)),
  fun v hv=>(h.tab v hv).chg hc hlt (n (by simp) (by simp) (by simp) (by simp)) (n (by simp) (by simp) (by simp) (by simp)),h.counts.chg hc hlt (n (by simp) (by simp) (by simp) (by simp)),h.len,h.tlen⟩
theorem Zal.setTab (h:Zal o w sb d s)(hlt:Zah o w){v:Nat}{f':Nat×Nat->Option Nat}(ht:Zc2 o' w' v (s.ts.getD v 0) f')(hc:Chg (· = .tmap v) o o' w w'):Zal o' w' sb { d with tab:=fun u=>if u=v then f' else d.tab u } s:=by
 refine⟨hc.ext _ _ h.own,hc.ext _ _ h.ownl,(hc.same hlt h.own (by simp)).trans h.blk,(hc.same hlt h.ownl (by simp)).trans h.lev,
  h.vars.chg hc hlt (by simp),h.level.chg hc hlt (by simp),h.pool.chg hc hlt (by simp) (by simp) (by simp) (by simp),h.tabs.chg hc hlt (by simp),
  fun u hu=>?_,h.counts.chg hc hlt (by simp),h.len,h.tlen⟩
 dsimp only
 by_cases e:u=v
 . subst e;rw[if_pos rfl];exact ht
 . rw[if_neg e];exact(h.tab u hu).chg hc hlt (by simp) (by simpa using e)
end
def Zat (d:Zac):Nat->Int:=fun i=>if d.pool.tk i=true then ((d.pool.nd i).refs:Int) else 0
structure Zf9 (d d':Zac)(f:Nat)(sg:Int):Prop where
 vars:d'.vars=d.vars
 level:d'.level=d.level
 tab:d'.tab=d.tab
 nodes:Zaa d'=Zaa d
 many:d'.pool.many=d.pool.many
 free:d'.pool.free=d.pool.free
 room:d'.pool.room=d.pool.room
 len:d'.pool.at_.length=d.pool.at_.length
 clen:d'.counts.length=d.counts.length
 ext:∀ i,i≠0->Zat d' i=Zat d i+sg*toE f i
 live:Zb3 d' (Zat d')
def Zey (o:Own)(w:World)(sb:Nat)(d:Zac)(s:Zaw)(f:Nat)(sg:Int)(e:Ending)(w':World):Prop :=
 ∃ d',e=.returned (.int .i64 0)/\Zal o w' sb d' s/\Zah o w'/\Zf9 d d' f sg/\Chg Zan o o w w'
theorem Zi8:∀ r,RCnt r->Zan r:=fun r h=>by rcases h with h|h<;>simp[Zan,h]
theorem Zgu:∀ r:Role,r=.slots->Zan r:=fun r h=>by simp[Zan,Ze7,h]
def RN.ref (n:RN)(k:Nat):RN:={ n with refs:=k }
theorem Zgv {d:Zac}{x k:Nat}(hk:x<d.pool.at_.length)(ht:d.pool.tk x=true):Zaa { d with pool:=d.pool.setNd x ((d.pool.nd x).ref k) }=Zaa d:=by
 funext i;unfold Zaa;rw[Zak.setNd_get hk ht]
 by_cases e:i=x
 . subst e;simp[Zak.get,ht,RN.ref,bnOf]
 . rw[if_neg e]
theorem Zhf {d:Zac}{x k:Nat}(hk:x<d.pool.at_.length)(ht:d.pool.tk x=true):Zat { d with pool:=d.pool.setNd x ((d.pool.nd x).ref k) }=fun i=>if i=x then (k:Int) else Zat d i:=by
 funext i;unfold Zat;have h1:(d.pool.setNd x ((d.pool.nd x).ref k)).tk i=d.pool.tk i:=rfl;have h2:(d.pool.setNd x ((d.pool.nd x).ref k)).nd i=if i=x then (d.pool.nd x).ref k else d.pool.nd i:=Zij hk i
 dsimp only;rw[h1,h2]
 by_cases e:i=x
 . subst e;simp[ht,RN.ref]
 . simp[e]
theorem Zca {d:Zac}{x:Nat}(ht:d.pool.tk x=true):Zat d x=((d.pool.nd x).refs:Int):=by simp[Zat,ht]
theorem Zll {d:Zac}{x k:Nat}{ext:Nat->Int}(hk:x<d.pool.at_.length)(ht:d.pool.tk x=true)(h:Zb3 d ext):Zb3 { d with pool:=d.pool.setNd x ((d.pool.nd x).ref k) } ext:=by
 have hn:=Zgv (k:=k) hk ht;have hL:({ d with pool:=d.pool.setNd x ((d.pool.nd x).ref k) }:Zac).pool.at_.length=d.pool.at_.length:=by simp[Zak.setNd]
 refine⟨?_,?_,?_⟩
 . rw[hn,hL];exact h.cnt
 . rw[hn,hL];exact h.dead
 . rw[hn];exact h.has
theorem Zmd {o:Own}{w:World}{sb:Nat}{d:Zac}{s:Zaw}(h:Zal o w sb d s)(hlt:Zah o w)(hl:Zb3 d (Zat d))(f:Nat)(hf:f<eMax)(hx:enode f=0) :
 Calls prog 124 #[.pointer (some ⟨sb,0,none⟩),.int .i64 f] w (Zey o w sb d s f 1):=by
 obtain⟨c0,c1,c2,c3,c4,f0⟩:=cells5 h.blk;have lsb:sb<w.heap.size:=Zab c0;have g3:Hid (∀ W:World,Below w.heap.size w W->Zey o w sb d s f 1 (.returned (.int .i64 0)) W):=fun W hb =>
  ⟨d,rfl,h.below hlt hb,hlt.mono hb.size,⟨rfl,rfl,rfl,rfl,rfl,rfl,rfl,rfl,rfl,fun i hi=>by
   have e:f/2=0:=hx;simp[toE,e,Ne.symm hi],hl⟩,Chg.of_below hb _ _⟩
 have g1:(decide (enode f=0)||d.pool.tk (enode f))=true:=by rw[hx];rfl
 have g7:Hid (∀ W:World,Below w.heap.size w W->Calls prog 155 #[.pointer (some ⟨sb,0,none⟩),.int .i64 f] W fun x w'=>x=.returned (.bool true)/\Below W.heap.size W w'):=fun W hb=>by
  have h1:=Za8 (h.below hlt hb) (hlt.mono hb.size) f hf;rw[g1] at h1;exact h1
 have g4:d.pool.tk 0=false:=h.pool.zero;have g2:Hid (∀ W:World,Below w.heap.size w W->Calls prog 160 #[.pointer (some ⟨s.pb,0,none⟩),.int .i64 (enode f:Nat)] W fun x w'=>x=.returned (.tuple #[Zav (d.pool.has (enode f)),.bool (d.pool.tk (enode f))])/\Below W.heap.size W w') :=
  Hd (fun W hb=>Zcr o s.pb d.pool (enode f) W (h.pool.below hb hlt) (hlt.mono hb.size))
 have g8:Hid (∀ W:World,Below w.heap.size w W->W.cell? ⟨sb,1,none⟩=some (.pointer (some ⟨s.pb,0,none⟩))):=Hd (fun W hb=>(hb.cell (p:=⟨sb,1,none⟩) lsb).trans c1);have HN:=Hd (fun W=>Zbx f W hf);have g0:d.pool.tk (enode f)=false:=by rw[hx];exact g4
 obtain⟨N,hN⟩:∃ N,N=d.pool.has (enode f):=⟨_,rfl⟩;obtain⟨B,hB⟩:∃ B,B=d.pool.tk (enode f):=⟨_,rfl⟩;obtain⟨k,hk⟩:∃ k,k=enode f:=⟨_,rfl⟩;rw[<- hN,<- hB,<- hk] at g2;rw[<- hk] at HN;have HB:=Hd (hB.trans g0);clear h hlt hl hf hx g1 c0 c1 c2 c3 c4 f0 lsb g4 g0 hN hk hB
 go_enter func124,ntmps124
 go_wp2_with fail;refine(g7.out _ (Below.refl _ _)).mono ?_;rintro x w1 ⟨rfl,g6⟩;have g9:=Hd g6;clear g6;go_upto_region 5 with fail;refine Zeq (w0:=w) (N:=N) (v0:=.pointer (some ⟨sb,0,none⟩)) (v1:=.pointer (some ⟨sb,0,none⟩)) (v2:=.pointer (some ⟨sb,1,none⟩)) (v3:=.pointer (some ⟨s.pb,0,none⟩)) (v4:=.int .i64 f) (v5:=.int .i64 k) (v6:=.tuple #[Zav N,.bool B]) (v7:=.tuple #[Zav N,.bool B]) (v8:=Zav N) (v9:=.bool B) (v12:=.bool B) rfl (by kernel_rfl) (by kernel_rfl) ⟨⟨rfl,rfl,rfl,rfl,rfl,rfl,rfl⟩,rfl,rfl,rfl,rfl,rfl,rfl⟩ rfl (by decide) (Zbi g9.out 1) (fun W _=>HN.out W) (fun W hb=>g2.out W hb) (fun W hb=>?_) (fun x W=>?_) (fun x W X hX=>?_) (fun a W=>?_) (fun bx W Y hz hY=>?_) (fun bx W3 gc g5 ga=>?_)
 . have gd:=g8.out W hb;simp only[Zai];refine⟨?_,?_,?_,?_,?_⟩<;>go_simp
 . simp only[Zai];refine⟨?_,?_⟩<;>go_simp
 . subst hX;simp only[Zai];unfold Zav;refine⟨?_,?_,?_⟩<;>go_simp
 . go_simp
 . subst hY;obtain⟨e0,e1,e2,e3,e4,fz⟩:=cells5 hz;simp only[Zai];unfold Zav;refine⟨⟨_,_,_,rfl,Zby (k:=0) fz e0 e1 e2 e3 e4 _ _ _ _ _⟩,fun W=>?_⟩;go_simp
 simp only[Zai];unfold Zav;obtain rfl:B=false:=HB.out;have gb:=Hd g5;clear g5 ga g2 HN g7 g8 g9 HB;go_wp2_with fail;go_ret;exact g3.out _ gb.out
theorem Zmc {o:Own}{w:World}{sb:Nat}{d:Zac}{s:Zaw}(h:Zal o w sb d s)(hlt:Zah o w)(hl:Zb3 d (Zat d)){rk:Nat->Nat}(ha:Acy (Zaa d) rk)(f:Nat){b:BN}(hx:Zaa d (enode f)=some b)
 (htop:∀ y b,Zaa d y=some b->Zat d y<1099511627776) :
 Calls prog 124 #[.pointer (some ⟨sb,0,none⟩),.int .i64 f] w (Zey o w sb d s f 1):=by
 obtain⟨c0,c1,c2,c3,c4,f0⟩:=cells5 h.blk;have lsb:sb<w.heap.size:=Zab c0;have g9:okE (Zaa d) f:=.inr ⟨b,hx⟩;have hf:f<eMax:=by have:=h.edge_lt g9;unfold eMax;omega
 have g0:=Zax hx;have g3:=h.tk_lt hx;have gv:(d.pool.nd (enode f)).refs<1099511627776:=by have:=htop _ _ hx;rw[Zca g0.1] at this;omega
 have hid:(d.pool.nd (enode f)).id=enode f:=h.pool.id _ g0.1;have ga:(decide (enode f=0)||d.pool.tk (enode f))=true:=by rw[g0.1];simp
 have gq:Hid (∀ W:World,Below w.heap.size w W->Calls prog 155 #[.pointer (some ⟨sb,0,none⟩),.int .i64 f] W fun x w'=>x=.returned (.bool true)/\Below W.heap.size W w'):=fun W hb=>by
  have h1:=Za8 (h.below hlt hb) (hlt.mono hb.size) f hf;rw[ga] at h1;exact h1
 have g2:Hid (∀ W:World,Below w.heap.size w W->Calls prog 160 #[.pointer (some ⟨s.pb,0,none⟩),.int .i64 (enode f:Nat)] W fun x w'=>x=.returned (.tuple #[Zav (d.pool.has (enode f)),.bool (d.pool.tk (enode f))])/\Below W.heap.size W w') :=
  Hd (fun W hb=>Zcr o s.pb d.pool (enode f) W (h.pool.below hb hlt) (hlt.mono hb.size))
 have gr:Hid (∀ W:World,Below w.heap.size w W->W.cell? ⟨sb,1,none⟩=some (.pointer (some ⟨s.pb,0,none⟩))):=Hd (fun W hb=>(hb.cell (p:=⟨sb,1,none⟩) lsb).trans c1);have HN:=Hd (fun W=>Zbx f W hf);obtain⟨r,hr⟩:∃ r,r=(d.pool.nd (enode f)).refs:=⟨_,rfl⟩
 skip
 have gb:Hid (∀ W:World,Below w.heap.size w W->Calls prog 161 #[.pointer (some ⟨s.pb,0,none⟩),Zav ((d.pool.nd (enode f)).ref (r+1))] W fun x w'=>x=.returned (.int .i64 0)/\Zal o w' sb { d with pool:=d.pool.setNd (enode f) ((d.pool.nd (enode f)).ref (r+1)) } s/\Chg Zan o o w w'/\Zah o w'):=fun W hb=>by
  have gx:d.pool.tk ((d.pool.nd (enode f)).ref (r+1)).id=true:=by show d.pool.tk (d.pool.nd (enode f)).id=true;rw[hid];exact g0.1
  refine(Zh0 o s.pb d.pool ((d.pool.nd (enode f)).ref (r+1)) W (h.pool.below hb hlt) (hlt.mono hb.size) gx).mono ?_;rintro e w' ⟨rfl,hp,hc,g6⟩;have e1:((d.pool.nd (enode f)).ref (r+1)).id=enode f:=hid;rw[e1] at hp;exact⟨rfl,(h.below hlt hb).setPool (hlt.mono hb.size) hp (hc.mono (fun r hr=>by simp[Ze7,hr])),(Chg.of_below hb _ _).trans (hc.mono Zgu),g6⟩
 have g8:Hid (∀ (W:World),Zal o W sb { d with pool:=d.pool.setNd (enode f) ((d.pool.nd (enode f)).ref (r+1)) } s->Zah o W->Chg Zan o o w W ->
  Calls prog 163 #[.pointer (some ⟨sb,0,none⟩),.int .i64 f] W fun e w'=>e=.returned (.tuple #[])/\Zey o w sb d s f 1 (.returned (.int .i64 0)) w'):=fun W hs g6 gA=>by
  have g5:=Zgv (d:=d) (k:=r+1) g3.2.1 g0.1
  refine(Zf0 o sb s rk (rk (enode f)+1) W _ (Zat d) f ⟨hs,g6,by rw[g5];exact ha,by rw[g5];exact g9,Zll g3.2.1 g0.1 hl,fun y q hq=>(by
   rw[g5] at hq;have h1:=htop y q hq;have h2:toE f y<=1:=by unfold toE;split<;>omega
   omega),.inr (Nat.lt_succ_self _)⟩).mono ?_
  rintro e w' ⟨cs,dd,rfl,gu,gw,gz,_,_,gh⟩;refine⟨rfl,_,rfl,gu,g6.mono gh.size,⟨rfl,rfl,rfl,g5,rfl,rfl,rfl,by simp[Zac.cd,Zak.setNd],gz,fun i hi=>?_,gw.congr (fun y b' hb'=>?_)⟩,gA.trans (gh.mono Zi8)⟩
  ·show Zat { d with pool:=d.pool.setNd (enode f) ((d.pool.nd (enode f)).ref (r+1)) } i=_
   rw[Zhf g3.2.1 g0.1];dsimp only;unfold toE
   by_cases e:i=enode f
   . have e':f/2=i:=e.symm;rw[if_pos e,if_pos e',e,Zca g0.1,<- hr];omega
   ·have e':¬ f/2=i:=fun h'=>e h'.symm
    rw[if_neg e,if_neg e'];omega
  ·show Zat { d with pool:=d.pool.setNd (enode f) ((d.pool.nd (enode f)).ref (r+1)) } y=_
   rw[Zhf g3.2.1 g0.1];dsimp only;unfold addE toE
   by_cases e:y=enode f
   . have e':f/2=y:=e.symm;rw[if_pos e,if_pos e',e,Zca g0.1,<- hr];omega
   ·have e':¬ f/2=y:=fun h'=>e h'.symm
    rw[if_neg e,if_neg e'];omega
 have gn:d.pool.has (enode f)=d.pool.nd (enode f):=g0.2.1;rw[gn] at g2;have gc:Hid (Zav ((d.pool.nd (enode f)).ref (r+1))=.agg #[.int .i64 (d.pool.nd (enode f)).id,.int .i64 (d.pool.nd (enode f)).v,.int .i64 (d.pool.nd (enode f)).lo,.int .i64 (d.pool.nd (enode f)).hi,.int .i64 ((r:Int)+1)]):=by
  show _=_
  unfold Zav RN.ref;dsimp only;rw[show ((r+1:Nat):Int)=(r:Int)+1 from by omega]
 rw[g0.1] at g2;rw[<- hr] at gv;obtain⟨N,hN⟩:∃ N,N=d.pool.nd (enode f):=⟨_,rfl⟩;have gm:N.refs=r:=by rw[hN,hr]
 rw[<- hN] at g2 gc gb g8;obtain⟨B,hB⟩:∃ B,B=true:=⟨_,rfl⟩;rw[<- hB] at g2;obtain⟨k,hk⟩:∃ k,k=enode f:=⟨_,rfl⟩;rw[<- hk] at g2 HN;have gs:=Hd hB;have gp:=Hd gm;have gF:=Hd hk;clear h hlt hl ha hx htop hf g0 ga g3 hid hr gn hN hB hk g9 c0 c1 c2 c3 c4 f0 lsb gm
 go_enter func124,ntmps124
 go_wp2_with fail;refine(gq.out _ (Below.refl _ _)).mono ?_;rintro x w1 ⟨rfl,gk⟩;have gE:=Hd gk;clear gk gq;go_upto_region 5 with fail;refine Zeq (w0:=w) (N:=N) (v0:=.pointer (some ⟨sb,0,none⟩)) (v1:=.pointer (some ⟨sb,0,none⟩)) (v2:=.pointer (some ⟨sb,1,none⟩)) (v3:=.pointer (some ⟨s.pb,0,none⟩)) (v4:=.int .i64 f) (v5:=.int .i64 k) (v6:=.tuple #[Zav N,.bool B]) (v7:=.tuple #[Zav N,.bool B]) (v8:=Zav N) (v9:=.bool B) (v12:=.bool B) rfl (by kernel_rfl) (by kernel_rfl) ⟨⟨rfl,rfl,rfl,rfl,rfl,rfl,rfl⟩,rfl,rfl,rfl,rfl,rfl,rfl⟩ rfl (by decide) (Zbi gE.out 1) (fun W _=>HN.out W) (fun W hb=>g2.out W hb) (fun W hb=>?_) (fun x W=>?_) (fun x W X hX=>?_) (fun a W=>?_) (fun bx W Y hz hY=>?_) (fun bx W3 gy gj gd=>?_)
 . have gi:=gr.out W hb;simp only[Zai];refine⟨?_,?_,?_,?_,?_⟩<;>go_simp
 . simp only[Zai];refine⟨?_,?_⟩<;>go_simp
 . subst hX;simp only[Zai];unfold Zav;refine⟨?_,?_,?_⟩<;>go_simp
 . go_simp
 . subst hY;obtain⟨e0,e1,e2,e3,e4,fz⟩:=cells5 hz;simp only[Zai];unfold Zav;refine⟨⟨_,_,_,rfl,Zby (k:=0) fz e0 e1 e2 e3 e4 _ _ _ _ _⟩,fun W=>?_⟩;go_simp
 simp only[Zai];unfold Zav;obtain rfl:B=true:=gs.out;have g1:=gd;unfold Zwq at g1;rw[gp.out] at g1;have go:=Hd g1;have gt:=Hd gj;obtain⟨y0,y1,y2,y3,y4,yz⟩:=cells5 g1;clear gd g1 gj gp g2 HN gs;go_upto_region 8 with fail;have g4:=Zae (k:=4) go.out (.int .i64 ((r:Int)+1));have g7:Below w.heap.size w (W3.setCell ⟨bx,4,none⟩ (.int .i64 ((r:Int)+1))):=gt.out.setCell (p:=⟨bx,4,none⟩) gy _;obtain⟨W4,gl⟩:∃ W,W=W3.setCell ⟨bx,4,none⟩ (.int .i64 ((r:Int)+1)):=⟨_,rfl⟩;rw[<- gl] at g4 g7 ⊢;clear gl go gt y0 y1 y2 y3 y4 yz;simp at g4;obtain⟨z0,z1,z2,z3,z4,zz⟩:=cells5 g4;have gi:=gr.out _ g7;refine Zam (fun w'=>w'=W4.drew) true 5 [(0,false),(1,false),(2,false),(3,false),(4,false),(5,true)] (by kernel_rfl) (by kernel_rfl) rfl ?_;simp only[planned,Zdx]
 iterate 5
  refine Zao rfl ?_;apply Exists.intro;refine⟨fun w' hw=>?_,?_⟩
  . subst hw;go_simp;rfl
  simp only[Zai]
 refine Ze1 rfl (fun K hK=>?_);unfold Oper.wp;go_simp;rw[<- gc.out];refine(gb.out _ (Zbi g7 1)).mono ?_;rintro x w5 ⟨rfl,ge,gg,gf⟩;refine hK _ _ (Zb2 ?_);have gB:=Hd ge;have gD:=Hd gg;have gC:=Hd gf;clear ge gg gf g4 g7 z0 z1 z2 z3 z4 zz gi;go_wp2_with fail;refine(g8.out _ gB.out gC.out gD.out).mono ?_;rintro x w6 ⟨rfl,hp⟩;have HP:=Hd hp;clear hp;go_wp2_with fail;go_ret;exact HP.out
open Go.RowKit
theorem Zmb {o:Own}{w:World}{sb:Nat}{d:Zac}{s:Zaw}(h:Zal o w sb d s)(hlt:Zah o w)(hl:Zb3 d (Zat d))(f:Nat)(hf:f<eMax)(hx:enode f=0) :
 Calls prog 123 #[.pointer (some ⟨sb,0,none⟩),.int .i64 f] w (Zey o w sb d s f (-1)):=by
 obtain⟨c0,c1,c2,c3,c4,f0⟩:=cells5 h.blk;have lsb:sb<w.heap.size:=Zab c0;have g3:Hid (∀ W:World,Below w.heap.size w W->Zey o w sb d s f (-1) (.returned (.int .i64 0)) W):=fun W hb =>
  ⟨d,rfl,h.below hlt hb,hlt.mono hb.size,⟨rfl,rfl,rfl,rfl,rfl,rfl,rfl,rfl,rfl,fun i hi=>by
   have e:f/2=0:=hx;simp[toE,e,Ne.symm hi],hl⟩,Chg.of_below hb _ _⟩
 have g1:(decide (enode f=0)||d.pool.tk (enode f))=true:=by rw[hx];rfl
 have g7:Hid (∀ W:World,Below w.heap.size w W->Calls prog 155 #[.pointer (some ⟨sb,0,none⟩),.int .i64 f] W fun x w'=>x=.returned (.bool true)/\Below W.heap.size W w'):=fun W hb=>by
  have h1:=Za8 (h.below hlt hb) (hlt.mono hb.size) f hf;rw[g1] at h1;exact h1
 have g4:d.pool.tk 0=false:=h.pool.zero;have g2:Hid (∀ W:World,Below w.heap.size w W->Calls prog 160 #[.pointer (some ⟨s.pb,0,none⟩),.int .i64 (enode f:Nat)] W fun x w'=>x=.returned (.tuple #[Zav (d.pool.has (enode f)),.bool (d.pool.tk (enode f))])/\Below W.heap.size W w') :=
  Hd (fun W hb=>Zcr o s.pb d.pool (enode f) W (h.pool.below hb hlt) (hlt.mono hb.size))
 have g8:Hid (∀ W:World,Below w.heap.size w W->W.cell? ⟨sb,1,none⟩=some (.pointer (some ⟨s.pb,0,none⟩))):=Hd (fun W hb=>(hb.cell (p:=⟨sb,1,none⟩) lsb).trans c1);have HN:=Hd (fun W=>Zbx f W hf);have g0:d.pool.tk (enode f)=false:=by rw[hx];exact g4
 obtain⟨N,hN⟩:∃ N,N=d.pool.has (enode f):=⟨_,rfl⟩;obtain⟨B,hB⟩:∃ B,B=d.pool.tk (enode f):=⟨_,rfl⟩;obtain⟨k,hk⟩:∃ k,k=enode f:=⟨_,rfl⟩;rw[<- hN,<- hB,<- hk] at g2;rw[<- hk] at HN;have HB:=Hd (hB.trans g0);clear h hlt hl hf hx g1 c0 c1 c2 c3 c4 f0 lsb g4 g0 hN hk hB
 go_enter func123,ntmps123
 go_wp2_with fail;refine(g7.out _ (Below.refl _ _)).mono ?_;rintro x w1 ⟨rfl,g6⟩;have g9:=Hd g6;clear g6;go_upto_region 5 with fail;refine Zeq (w0:=w) (N:=N) (v0:=.pointer (some ⟨sb,0,none⟩)) (v1:=.pointer (some ⟨sb,0,none⟩)) (v2:=.pointer (some ⟨sb,1,none⟩)) (v3:=.pointer (some ⟨s.pb,0,none⟩)) (v4:=.int .i64 f) (v5:=.int .i64 k) (v6:=.tuple #[Zav N,.bool B]) (v7:=.tuple #[Zav N,.bool B]) (v8:=Zav N) (v9:=.bool B) (v12:=.bool B) rfl (by kernel_rfl) (by kernel_rfl) ⟨⟨rfl,rfl,rfl,rfl,rfl,rfl,rfl⟩,rfl,rfl,rfl,rfl,rfl,rfl⟩ rfl (by decide) (Zbi g9.out 1) (fun W _=>HN.out W) (fun W hb=>g2.out W hb) (fun W hb=>?_) (fun x W=>?_) (fun x W X hX=>?_) (fun a W=>?_) (fun bx W Y hz hY=>?_) (fun bx W3 gc g5 ga=>?_)
 . have gd:=g8.out W hb;simp only[Zai];refine⟨?_,?_,?_,?_,?_⟩<;>go_simp
 . simp only[Zai];refine⟨?_,?_⟩<;>go_simp
 . subst hX;simp only[Zai];unfold Zav;refine⟨?_,?_,?_⟩<;>go_simp
 . go_simp
 . subst hY;obtain⟨e0,e1,e2,e3,e4,fz⟩:=cells5 hz;simp only[Zai];unfold Zav;refine⟨⟨_,_,_,rfl,Zby (k:=0) fz e0 e1 e2 e3 e4 _ _ _ _ _⟩,fun W=>?_⟩;go_simp
 simp only[Zai];unfold Zav;obtain rfl:B=false:=HB.out;have gb:=Hd g5;clear g5 ga g2 HN g7 g8 g9 HB;go_wp2_with fail;go_ret;exact g3.out _ gb.out
theorem Zma {o:Own}{w:World}{sb:Nat}{d:Zac}{s:Zaw}(h:Zal o w sb d s)(hlt:Zah o w)(hl:Zb3 d (Zat d)){rk:Nat->Nat}(ha:Acy (Zaa d) rk)(f:Nat){b:BN}(hx:Zaa d (enode f)=some b)
 (htop:∀ y b,Zaa d y=some b->Zat d y<1099511627776) (hpos:1<=Zat d (enode f)) (hcn:∀ y b,Zaa d y=some b->Zas d y<=2199023255552) :
 Calls prog 123 #[.pointer (some ⟨sb,0,none⟩),.int .i64 f] w (Zey o w sb d s f (-1)):=by
 obtain⟨c0,c1,c2,c3,c4,f0⟩:=cells5 h.blk;have lsb:sb<w.heap.size:=Zab c0;have g9:okE (Zaa d) f:=.inr ⟨b,hx⟩;have hf:f<eMax:=by have:=h.edge_lt g9;unfold eMax;omega
 have g0:=Zax hx;have g3:=h.tk_lt hx;have gv:(d.pool.nd (enode f)).refs<1099511627776:=by have:=htop _ _ hx;rw[Zca g0.1] at this;omega
 have hid:(d.pool.nd (enode f)).id=enode f:=h.pool.id _ g0.1;have ga:(decide (enode f=0)||d.pool.tk (enode f))=true:=by rw[g0.1];simp
 have gq:Hid (∀ W:World,Below w.heap.size w W->Calls prog 155 #[.pointer (some ⟨sb,0,none⟩),.int .i64 f] W fun x w'=>x=.returned (.bool true)/\Below W.heap.size W w'):=fun W hb=>by
  have h1:=Za8 (h.below hlt hb) (hlt.mono hb.size) f hf;rw[ga] at h1;exact h1
 have g2:Hid (∀ W:World,Below w.heap.size w W->Calls prog 160 #[.pointer (some ⟨s.pb,0,none⟩),.int .i64 (enode f:Nat)] W fun x w'=>x=.returned (.tuple #[Zav (d.pool.has (enode f)),.bool (d.pool.tk (enode f))])/\Below W.heap.size W w') :=
  Hd (fun W hb=>Zcr o s.pb d.pool (enode f) W (h.pool.below hb hlt) (hlt.mono hb.size))
 have gr:Hid (∀ W:World,Below w.heap.size w W->W.cell? ⟨sb,1,none⟩=some (.pointer (some ⟨s.pb,0,none⟩))):=Hd (fun W hb=>(hb.cell (p:=⟨sb,1,none⟩) lsb).trans c1);have HN:=Hd (fun W=>Zbx f W hf);obtain⟨r,hr⟩:∃ r,r=(d.pool.nd (enode f)).refs:=⟨_,rfl⟩;have gF:1<=r:=by rw[Zca g0.1] at hpos;omega
 have gb:Hid (∀ W:World,Below w.heap.size w W->Calls prog 161 #[.pointer (some ⟨s.pb,0,none⟩),Zav ((d.pool.nd (enode f)).ref (r-1))] W fun x w'=>x=.returned (.int .i64 0)/\Zal o w' sb { d with pool:=d.pool.setNd (enode f) ((d.pool.nd (enode f)).ref (r-1)) } s/\Chg Zan o o w w'/\Zah o w'):=fun W hb=>by
  have gx:d.pool.tk ((d.pool.nd (enode f)).ref (r-1)).id=true:=by show d.pool.tk (d.pool.nd (enode f)).id=true;rw[hid];exact g0.1
  refine(Zh0 o s.pb d.pool ((d.pool.nd (enode f)).ref (r-1)) W (h.pool.below hb hlt) (hlt.mono hb.size) gx).mono ?_;rintro e w' ⟨rfl,hp,hc,g6⟩;have e1:((d.pool.nd (enode f)).ref (r-1)).id=enode f:=hid;rw[e1] at hp;exact⟨rfl,(h.below hlt hb).setPool (hlt.mono hb.size) hp (hc.mono (fun r hr=>by simp[Ze7,hr])),(Chg.of_below hb _ _).trans (hc.mono Zgu),g6⟩
 have g8:Hid (∀ (W:World),Zal o W sb { d with pool:=d.pool.setNd (enode f) ((d.pool.nd (enode f)).ref (r-1)) } s->Zah o W->Chg Zan o o w W ->
  Calls prog 162 #[.pointer (some ⟨sb,0,none⟩),.int .i64 f] W fun e w'=>e=.returned (.tuple #[])/\Zey o w sb d s f (-1) (.returned (.int .i64 0)) w'):=fun W hs g6 gA=>by
  have g4:=Zgv (d:=d) (k:=r-1) g3.2.1 g0.1
  refine(Zfz o sb s rk (rk (enode f)+1) W _ (Zat d) f ⟨hs,g6,by rw[g4];exact ha,by rw[g4];exact g9,Zll g3.2.1 g0.1 hl,fun y q hq=>hcn y q (by rw[g4] at hq;exact hq),fun y q hq=>(by
   rw[g4] at hq
   by_cases e:enode f=y
   ·subst e;have h1:Zat d (enode f)=(r:Int):=by rw[Zca g0.1,hr]
    have h2:toE f (enode f)=1:=Zjf f;rw[h1,h2];omega
   ·have h1:toE f y=0:=if_neg e;have h2:0<=Zat d y:=by unfold Zat;split<;>omega
    rw[h1];omega),.inr (Nat.lt_succ_self _)⟩).mono ?_
  rintro e w' ⟨cs,dd,rfl,gu,gw,gz,_,_,gh⟩;refine⟨rfl,_,rfl,gu,g6.mono gh.size,⟨rfl,rfl,rfl,g4,rfl,rfl,rfl,by simp[Zac.cd,Zak.setNd],gz,fun i hi=>?_,gw.congr (fun y b' hb'=>?_)⟩,gA.trans (gh.mono Zi8)⟩
  ·show Zat { d with pool:=d.pool.setNd (enode f) ((d.pool.nd (enode f)).ref (r-1)) } i=_
   rw[Zhf g3.2.1 g0.1];dsimp only;unfold toE
   by_cases e:i=enode f
   . have e':f/2=i:=e.symm;rw[if_pos e,if_pos e',e,Zca g0.1,<- hr];omega
   ·have e':¬ f/2=i:=fun h'=>e h'.symm
    rw[if_neg e,if_neg e'];omega
  ·show Zat { d with pool:=d.pool.setNd (enode f) ((d.pool.nd (enode f)).ref (r-1)) } y=_
   rw[Zhf g3.2.1 g0.1];dsimp only;unfold addE toE
   by_cases e:y=enode f
   . have e':f/2=y:=e.symm;rw[if_pos e,if_pos e',e,Zca g0.1,<- hr];omega
   ·have e':¬ f/2=y:=fun h'=>e h'.symm
    rw[if_neg e,if_neg e'];omega
 have gn:d.pool.has (enode f)=d.pool.nd (enode f):=g0.2.1;rw[gn] at g2;have gc:Hid (Zav ((d.pool.nd (enode f)).ref (r-1))=.agg #[.int .i64 (d.pool.nd (enode f)).id,.int .i64 (d.pool.nd (enode f)).v,.int .i64 (d.pool.nd (enode f)).lo,.int .i64 (d.pool.nd (enode f)).hi,.int .i64 ((r:Int)-1)]):=by
  show _=_
  unfold Zav RN.ref;dsimp only;rw[show ((r-1:Nat):Int)=(r:Int)-1 from by omega]
 rw[g0.1] at g2;rw[<- hr] at gv;obtain⟨N,hN⟩:∃ N,N=d.pool.nd (enode f):=⟨_,rfl⟩;have gm:N.refs=r:=by rw[hN,hr]
 rw[<- hN] at g2 gc gb g8;obtain⟨B,hB⟩:∃ B,B=true:=⟨_,rfl⟩;rw[<- hB] at g2;obtain⟨k,hk⟩:∃ k,k=enode f:=⟨_,rfl⟩;rw[<- hk] at g2 HN;have gs:=Hd hB;have gp:=Hd gm;have gG:=Hd hk;clear h hlt hl ha hx htop hf g0 ga g3 hid hr gn hN hB hk g9 c0 c1 c2 c3 c4 f0 lsb gm hpos hcn
 go_enter func123,ntmps123
 go_wp2_with fail;refine(gq.out _ (Below.refl _ _)).mono ?_;rintro x w1 ⟨rfl,gk⟩;have gE:=Hd gk;clear gk gq;go_upto_region 5 with fail;refine Zeq (w0:=w) (N:=N) (v0:=.pointer (some ⟨sb,0,none⟩)) (v1:=.pointer (some ⟨sb,0,none⟩)) (v2:=.pointer (some ⟨sb,1,none⟩)) (v3:=.pointer (some ⟨s.pb,0,none⟩)) (v4:=.int .i64 f) (v5:=.int .i64 k) (v6:=.tuple #[Zav N,.bool B]) (v7:=.tuple #[Zav N,.bool B]) (v8:=Zav N) (v9:=.bool B) (v12:=.bool B) rfl (by kernel_rfl) (by kernel_rfl) ⟨⟨rfl,rfl,rfl,rfl,rfl,rfl,rfl⟩,rfl,rfl,rfl,rfl,rfl,rfl⟩ rfl (by decide) (Zbi gE.out 1) (fun W _=>HN.out W) (fun W hb=>g2.out W hb) (fun W hb=>?_) (fun x W=>?_) (fun x W X hX=>?_) (fun a W=>?_) (fun bx W Y hz hY=>?_) (fun bx W3 gy gj gd=>?_)
 . have gi:=gr.out W hb;simp only[Zai];refine⟨?_,?_,?_,?_,?_⟩<;>go_simp
 . simp only[Zai];refine⟨?_,?_⟩<;>go_simp
 . subst hX;simp only[Zai];unfold Zav;refine⟨?_,?_,?_⟩<;>go_simp
 . go_simp
 . subst hY;obtain⟨e0,e1,e2,e3,e4,fz⟩:=cells5 hz;simp only[Zai];unfold Zav;refine⟨⟨_,_,_,rfl,Zby (k:=0) fz e0 e1 e2 e3 e4 _ _ _ _ _⟩,fun W=>?_⟩;go_simp
 simp only[Zai];unfold Zav;obtain rfl:B=true:=gs.out;have g1:=gd;unfold Zwq at g1;rw[gp.out] at g1;have go:=Hd g1;have gt:=Hd gj;obtain⟨y0,y1,y2,y3,y4,yz⟩:=cells5 g1;clear gd g1 gj gp g2 HN gs;go_upto_region 11 with fail;have g5:=Zae (k:=4) go.out (.int .i64 ((r:Int)-1));have g7:Below w.heap.size w (W3.setCell ⟨bx,4,none⟩ (.int .i64 ((r:Int)-1))):=gt.out.setCell (p:=⟨bx,4,none⟩) gy _;obtain⟨W4,gl⟩:∃ W,W=W3.setCell ⟨bx,4,none⟩ (.int .i64 ((r:Int)-1)):=⟨_,rfl⟩;rw[<- gl] at g5 g7 ⊢;clear gl go gt y0 y1 y2 y3 y4 yz;simp at g5;obtain⟨z0,z1,z2,z3,z4,zz⟩:=cells5 g5;have gi:=gr.out _ g7;refine Zam (fun w'=>w'=W4.drew) true 5 [(0,false),(1,false),(2,false),(3,false),(4,false),(5,true)] (by kernel_rfl) (by kernel_rfl) rfl ?_;simp only[planned,Zdx]
 iterate 5
  refine Zao rfl ?_;apply Exists.intro;refine⟨fun w' hw=>?_,?_⟩
  . subst hw;go_simp;rfl
  simp only[Zai]
 refine Ze1 rfl (fun K hK=>?_);unfold Oper.wp;go_simp;rw[<- gc.out];refine(gb.out _ (Zbi g7 1)).mono ?_;rintro x w5 ⟨rfl,ge,gg,gf⟩;refine hK _ _ (Zb2 ?_);have gB:=Hd ge;have gD:=Hd gg;have gC:=Hd gf;clear ge gg gf g5 g7 z0 z1 z2 z3 z4 zz gi;go_wp2_with fail;refine(g8.out _ gB.out gC.out gD.out).mono ?_;rintro x w6 ⟨rfl,hp⟩;have HP:=Hd hp;clear hp;go_wp2_with fail;go_ret;exact HP.out
open Go.RowKit
structure Zv9 (p p':Zak)(id:Nat)(n:RN):Prop where
 get:∀ i,p'.get i=if i=id then some { n with id:=id } else p.get i
 none:p.tk id=false
 pos:0<id
 lt:id<p'.at_.length
 le:p.at_.length<=p'.at_.length
 many:p'.many=p.many+1
 room:p'.room=p.room
theorem Zqm (o:Own)(pb:Nat)(p:Zak)(n:RN)(w:World)(h:Zap o w pb p)(hlt:Zah o w) :
 Calls prog 198 #[.pointer (some ⟨pb,0,none⟩),Zav n] w fun x w'=>(p.many=p.room/\x=.returned (.tuple #[.int .i64 0,.int .i64 7])/\Below w.heap.size w w') \/
  (∃ id p' o',x=.returned (.tuple #[.int .i64 (id:Nat),.int .i64 0])/\Zap o' w' pb p'/\Zv9 p p' id n/\Chg Ze7 o o' w w'/\Zah o' w'):=by
 rcases List.eq_nil_or_concat p.free with hf|⟨fs,id,hf⟩
 ·by_cases hr:p.at_.length<=p.room
  . refine(Zl5 o pb p n w h hlt hf hr).mono ?_;rintro e w' ⟨rfl,o',h1,h2,h3⟩;refine .inr ⟨_,_,o',rfl,h1,⟨fun i=>Zak.fresh_get h.len i,?_,h.pos,by simp[Zak.fresh],by simp[Zak.fresh],rfl,rfl⟩,h2,h3⟩;simp[Zak.tk,List.getD,List.getElem?_eq_none (Nat.le_of_eq h.len)]
  . refine(Zob o pb p n w h hf (by omega)).mono ?_;rintro e w' ⟨rfl,hb⟩;refine .inl ⟨?_,rfl,hb⟩;have h1:=h.many;have h2:=h.top;rw[hf] at h1;simp at h1;omega
 . rw[List.concat_eq_append] at hf;have hm:=h.free id (by rw[hf];simp);refine(Zl6 o pb p n fs id w h hlt hf).mono ?_;rintro e w' ⟨rfl,h1,h2,h3⟩;exact .inr ⟨id,_,o,rfl,h1,⟨fun i=>Zak.reuse_get hm.2.1 (by rw[h.len];exact hm.2.1) i,hm.2.2,hm.1,by simp[Zak.reuse];exact hm.2.1,by simp[Zak.reuse],rfl,rfl⟩,h2,h3⟩
structure Zki (d d':Zac)(id v lo hi:Nat):Prop where
 vars:d'.vars=d.vars
 level:d'.level=d.level
 tab:d'.tab=fun u=>if u=v then putF (d.tab v) (lo,hi) (some id) else d.tab u
 nodes:Zaa d'=addN (Zaa d) id ⟨v,lo,hi⟩
 none:Zaa d id=none
 pos:0<id
 many:d'.pool.many=d.pool.many+1
 room:d'.pool.room=d.pool.room
 ext:Zat d'=fun i=>if i=id then 0 else Zat d i
 live:Zb3 d' (Zat d')
 clen:d'.counts.length<=1048578
 cnt:Zas d'=setC (Zas d) id 0
def Yci (o:Own)(w:World)(sb:Nat)(d:Zac)(v lo hi:Nat)(e:Ending)(w':World):Prop :=
 (d.pool.many=d.pool.room/\e=.returned (.tuple #[.int .i64 0,.int .i64 7])/\Below w.heap.size w w') \/
 (∃ id d' o',e=.returned (.tuple #[.int .i64 (id:Nat),.int .i64 0])/\Zaq o' w' sb d'/\Zah o' w'/\Zki d d' id v lo hi/\Chg Zan o o' w w')
theorem Zw1 {k k':Nat}{N:Nat->Option BN}{c:Nat->Nat}{id:Nat}{b:BN}(hlt:∀ i b,N i=some b->i<k)(hk:k<=k')(hf:N id=none)(hid:id<k'):Zeg k' (addN N id b) (setC c id 0)=Zeg k N c+1:=by
 unfold Zeg;rw[Zdq (f:=dead1 N c) (j:=id) (fun i hi=>?_) k' hid]
 ·rw[Zqy (k:=k) (fun i hi=>?_) hk]
  . simp[dead1,hf,Zbm,setC]
  ·unfold dead1;cases e:N i with
   | none=>rfl
   | some b'=>exact absurd (hlt i b' e) (by omega)
 . unfold dead1;rw[Zay _ hi];simp only[setC,if_neg hi]
section
variable {o o':Own}{w w':World}{sb:Nat}{d:Zac}{s:Zaw}
theorem Zal.setVc (h:Zal o w sb d s)(hlt:Zah o w){v:Value}{cs:List Nat}(hr:RowR o' w' .counts 3 1 v cs.length (cs.map nat64))(hc:Chg (· = .counts) o o' w w'):Zal o' (w'.setCell ⟨sb,3,none⟩ v) sb (d.cd cs d.dead) { s with vc:=v }:=by
 have g0:=hc.ext _ _ h.own;have ne:∀ {b r},o' b=some r->r ≠ .store->b≠sb:=fun hb hr e=>by subst e;rw[g0] at hb;cases hb;exact hr rfl
 have k1:∀ {b r},o' b=some r->r ≠ .store->(w'.setCell ⟨sb,3,none⟩ v).heap[b]?=w'.heap[b]?:=fun hb hr=>Zad (ne hb hr) _
 refine⟨g0,hc.ext _ _ h.ownl,Zae (k:=3) ((hc.same hlt h.own (by simp)).trans h.blk) _,(k1 (hc.ext _ _ h.ownl) (by simp)).trans ((hc.same hlt h.ownl (by simp)).trans h.lev),
  (h.vars.chg hc hlt (by simp)).keep (fun g hg=>k1 hg (by simp)) (fun _ h=>h),(h.level.chg hc hlt (by simp)).keep (fun g hg=>k1 hg (by simp)) (fun _ h=>h),
  (h.pool.chg hc hlt (by simp) (by simp) (by simp) (by simp)).keep (fun g r hg hr=>k1 hg (by rcases hr with rfl|rfl|rfl|rfl<;>simp)) (fun _ _ h=>h),
  (h.tabs.chg hc hlt (by simp)).keep (fun g hg=>k1 hg (by simp)) (fun _ h=>h),
  fun u hu=>((h.tab u hu).chg hc hlt (by simp) (by simp)).keep (fun g r hg hr=>k1 hg (by rcases hr with rfl|rfl<;>simp)) (fun _ _ h=>h),
  hr.keep (fun g hg=>k1 hg (by simp)) (fun _ h=>h),h.len,h.tlen⟩
end
theorem Zal.tabAt {o:Own}{w:World}{sb:Nat}{d:Zac}{s:Zaw}(h:Zal o w sb d s){v:Nat}(hv:v<d.vars.length):∃ gt cap,s.vt=.slice (some ⟨gt,0,none⟩) s.ts.length cap/\w.cell? ⟨gt,v,none⟩=some (.pointer (some ⟨s.ts.getD v 0,0,none⟩))/\v<s.ts.length/\s.ts.length<=9223372036854775807:=by
 have g0:v<s.ts.length:=by rw[h.tlen];exact hv
 obtain⟨gt,cap,g1,_,h1,h2⟩:=h.tabs.shape (by omega);have hr:=h.tabs;rw[g1] at hr;refine⟨gt,cap,g1,?_,g0,by unfold maxLen at h2;omega⟩;rw[hr.cell v (by simpa using g0),List.getElem?_map,List.getElem?_eq_getElem g0];simp[ptrV,List.getD,g0]
structure AddS (o:Own)(w:World)(sb:Nat)(d:Zac)(ts:List Nat)(vt:Value)(o1:Own)(wx:World):Prop where
 st:∃ s,Zal o1 wx sb d s/\s.ts=ts/\s.vt=vt
 lt:Zah o1 wx
 chg:Chg Zan o o1 w wx
theorem Zxj:(prog.info? 3).map (fun i=>(i.zero,i.size,i.bytes))=some (some (.int .i64 0),1,8):=by kernel_rfl
def padC (cs:List Nat)(j:Nat):List Nat:=cs++List.replicate j 0
theorem Zyc (cs:List Nat)(j:Nat):padC cs (j+1)=padC cs j++[0]:=by unfold padC;rw[List.replicate_succ',List.append_assoc]
theorem Zil (cs:List Nat)(j:Nat):(padC cs j).length=cs.length+j:=by simp[padC]
theorem Yav (cs:List Nat)(j i:Nat):(padC cs j).getD i 0=cs.getD i 0:=by
 unfold padC;simp only[List.getD,List.getElem?_append];split
 . rfl
 ·rename_i h
  rw[List.getElem?_eq_none (l:=cs) (by omega),List.getElem?_replicate];split<;>rfl
def Zac.added (d:Zac)(p':Zak)(cs:List Nat)(id v lo hi:Nat):Zac:=⟨d.vars,d.level,p',fun u=>if u=v then putF (d.tab v) (lo,hi) (some id) else d.tab u,cs.set id 0,d.dead+1⟩
theorem Zwg {d:Zac}{p':Zak}{id v lo hi j:Nat}(hl:Zb3 d (Zat d))(hok:∀ i b,Zaa d i=some b->okE (Zaa d) b.lo/\okE (Zaa d) b.hi)(hr:Zv9 d.pool p' id ⟨0,v,lo,hi,0⟩)
 (hid:id<(padC d.counts j).length) (hcl:(padC d.counts j).length<=1048578):Zki d (d.added p' (padC d.counts j) id v lo hi) id v lo hi:=by
 have g0:Zaa d id=none:=by unfold Zaa Zak.get;rw[if_neg (by rw[hr.none];simp)];rfl
 have g1:Zaa (d.added p' (padC d.counts j) id v lo hi)=addN (Zaa d) id ⟨v,lo,hi⟩:=by
  funext i;unfold Zaa Zac.added;dsimp only;rw[hr.get]
  by_cases e:i=id
  . subst e;rw[if_pos rfl,Zbm];rfl
  . rw[if_neg e,Zay _ e]
 have g4:∀ i,p'.tk i=if i=id then true else d.pool.tk i:=fun i=>by
  have h1:=hr.get i;unfold Zak.get at h1
  by_cases e:i=id
  ·rw[if_pos e] at h1 ⊢;split at h1
   . assumption
   . cases h1
  ·rw[if_neg e] at h1 ⊢
   by_cases h2:p'.tk i=true<;>by_cases h3:d.pool.tk i=true<;>simp[h2,h3] at h1 ⊢
 have g3:Zat (d.added p' (padC d.counts j) id v lo hi)=fun i=>if i=id then 0 else Zat d i:=by
  funext i;unfold Zat;have h1:=hr.get i
  show (if p'.tk i=true then ((p'.nd i).refs:Int) else 0)=_
  rw[g4];unfold Zak.get at h1;rw[g4] at h1
  by_cases e:i=id
  . rw[if_pos e] at h1;simp only[e,if_true] at h1 ⊢;have h2:=Option.some.inj h1;rw[h2];rfl
  ·rw[if_neg e] at h1;simp only[if_neg e] at h1 ⊢
   by_cases h3:d.pool.tk i=true
   . rw[if_pos h3,if_pos h3] at h1;rw[if_pos h3,if_pos h3,Option.some.inj h1]
   . rw[if_neg h3,if_neg h3]
 have g2:Zas (d.added p' (padC d.counts j) id v lo hi)=setC (Zas d) id 0:=by
  funext i;unfold Zas setC Zac.added;dsimp only
  by_cases e:i=id
  . subst e;rw[if_pos rfl];simp[List.getD,hid]
  . rw[if_neg e,<- Yav d.counts j i];simp only[List.getD,List.getElem?_set,if_neg (Ne.symm e)]
 have g5:id≠0:=by have:=hr.pos;omega
 refine⟨rfl,rfl,rfl,g1,g0,hr.pos,hr.many,hr.room,g3,⟨?_,?_,fun i b hb=>?_⟩,by simpa [Zac.added] using hcl,g2⟩
 ·rw[g1,g2,g3]
  show Cnt p'.at_.length _ _ _
  refine Cnt.add (hl.cnt.weaken hr.le) g0 (fun i bi hb=>?_) hr.lt;have h1:=hok i bi hb;constructor
  ·rcases h1.1 with h2|⟨c,h2⟩
   . omega
   . intro e;rw[e,g0] at h2;cases h2
  ·rcases h1.2 with h2|⟨c,h2⟩
   . omega
   . intro e;rw[e,g0] at h2;cases h2
 ·rw[g1,g2]
  show ((d.dead+1:Nat):Int)=Zeg p'.at_.length _ _
  rw[Zw1 hl.cnt.lt hr.le g0 hr.lt,<- hl.dead];omega
 ·rw[g1] at hb
  show i<((padC d.counts j).set id 0).length
  rw[List.length_set]
  by_cases e:i=id
  . subst e;exact hid
  . rw[Zay _ e] at hb;have:=hl.has i b hb;rw[Zil];omega
theorem Zjw {o:Own}{w:World}{sb:Nat}{d:Zac}{s:Zaw}(h:Zal o w sb d s)(hlt:Zah o w)(hl:Zb3 d (Zat d))(hok:∀ i b,Zaa d i=some b->okE (Zaa d) b.lo/\okE (Zaa d) b.hi)
 (v lo hi:Nat) (hv:v<d.vars.length) (ht:d.tab v (lo,hi)=none) (hcl:d.counts.length<=1048578) :
 Calls prog 181 #[.pointer (some ⟨sb,0,none⟩),.int .i64 v,.int .i64 lo,.int .i64 hi] w (Yci o w sb d v lo hi):=by
 obtain⟨c0,c1,c2,c3,c4,f0⟩:=cells5 h.blk;have gg:=Hd (Zqm o s.pb d.pool ⟨0,v,lo,hi,0⟩ w h.pool hlt);have h7:Hid (Zav ⟨0,v,lo,hi,0⟩=.agg #[.int .i64 0,.int .i64 v,.int .i64 lo,.int .i64 hi,.int .i64 0]):=rfl;have HH:=Hd h;have h9:=Hd hlt;have gN:=Hd (fun p' id j hr h1 h2=>Zwg (p':=p') (id:=id) (v:=v) (lo:=lo) (hi:=hi) (j:=j) hl hok hr h1 h2);have gy:Hid (d.dead<=1048577):=by
  show _<=_
  have h1:=hl.dead;have h2:=Zis (f:=dead1 (Zaa d) (Zas d)) (B:=1) d.pool.at_.length (fun i _=>by unfold dead1;split<;>first|omega|(split<;>omega));have h3:Zeg d.pool.at_.length (Zaa d) (Zas d)=Zar d.pool.at_.length (dead1 (Zaa d) (Zas d)):=rfl;have h4:=h.pool.top;have h5:=h.pool.room;omega
 have HV:=Hd hv;have HT:=Hd ht;clear h hlt hl hok hv ht
 go_enter func181,ntmps181
 go_wp2_with fail;rw[<- h7.out];refine gg.out.mono ?_;rintro x w1 (⟨hm,rfl,hb⟩|⟨id,p',o1,rfl,hp,hr,hc,g7⟩)
 ·have HM:=Hd hm;have HB:=Hd hb;clear hm hb;go_wp2_with fail
  go_ret2
  exact .inl ⟨HM.out,rfl,HB.out⟩
 ·have st1:=HH.out.setPool h9.out hp hc;have gS:=hp.tk_lt (i:=id) (by have h1:=hr.get id;unfold Zak.get at h1;rw[if_pos rfl] at h1;split at h1;(· assumption);cases h1);have gQ:=hp.top;have gR:=hp.room;have gH:Hid (AddS o w sb { d with pool:=p' } s.ts s.vt o1 w1):=⟨⟨s,st1,rfl,rfl⟩,g7,hc.mono (fun r hr=>by simp[Zan,hr])⟩;have HR:=Hd hr;have ho:id<=1048577:=by omega
  clear hp hr hc g7 st1 gg gS gQ gR c0 c1 c2 c3 c4 f0;go_wp2_with fail
  go_loopg [] (id+1-d.counts.length) (fun gk wx=>∃ (j:Nat) (o2:Own),AddS o w sb { d with pool:=p',counts:=padC d.counts j } s.ts s.vt o2 wx/\j+gk=id+1-d.counts.length)
  case atStart=>exact⟨0,o1,by have e:padC d.counts 0=d.counts:=by { simp[padC] };rw[e];exact gH.out,by omega⟩
  case round =>
   obtain⟨j,o2,hS,hj⟩:=hrel;obtain⟨⟨s2,g0,gl,g4⟩,gd,gf⟩:=hS;clear gH;obtain⟨c0,c1,c2,c3,c4,f0⟩:=cells5 g0.blk;have lsb:sb<wr.heap.size:=Zab c0;have g6:(padC d.counts j).length<=1048578:=by rw[Zil];omega
   have g9:=Hd g0;have gh:=Hd gd;have gJ:=Hd gf;have gZ:=Hd gl;have gX:=Hd g4
   by_cases hlt:(padC d.counts j).length<=id
   ·obtain⟨a,cap,hv,hy,gG,hn,_⟩:=g0.counts.slice;have g3:s2.vc=.slice a (padC d.counts j).length cap:=hv;rw[g3] at c3;have HJ:=Hd hj;have gw:RowR o2 wr .counts 3 1 (.slice a (padC d.counts j).length cap) (padC d.counts j).length ((padC d.counts j).map nat64):=by have:=g0.counts;rw[g3] at this;exact this
    have hw:0<gk:=by rw[Zil] at hlt;omega
    have gb:((padC d.counts j).length:Int)<=id:=by omega
    obtain⟨cl,g2⟩:∃ n,n=(padC d.counts j).length:=⟨_,rfl⟩;rw[<- g2] at g6 hlt gb c3 gw;have gO:=Hd gw;have hf:=Hd g2;clear g0 gd gf gl g4 hv g3 gw hj g2
    go_wp2_with (at_builtin
                 refine Zdr 22 3 1 8 _ underlying22 Zxj rfl (by decide) rfl _ _ rfl rfl rfl rfl (by simp) rfl (fun u hu=>by simp at hu;subst hu;rfl) gO.out gh.out (by omega) (by decide) ?_;intro g1 k1 w2 o3 gB gr g7;obtain⟨q0,q1,q2,q3,q4,fq⟩:=cells5 ((gr.same gh.out g9.out.own (by simp)).trans g9.out.blk);have h8:=Hd gB;have gx:=Hd gr;have hd:=Hd g7;clear gB gr g7 c0 c1 c2 c3 c4 f0)
    have gn:=h8.out;rw[show (padC d.counts j).map nat64++(#[Value.int .i64 0]:Array Value).toList=(padC d.counts (j+1)).map nat64 from by rw[Zyc,List.map_append];rfl] at gn;have e1:cl+1=(padC d.counts (j+1)).length:=by rw[hf.out,Zil,Zil];omega
    have gM:=Hd (g9.out.setVc (cs:=padC d.counts (j+1)) gh.out (by rw[<- e1];exact gn) gx.out);have h6:Hid (AddS o w sb { d with pool:=p',counts:=padC d.counts (j+1) } s.ts s.vt o3 (w2.setCell ⟨sb,3,none⟩ (.slice (some ⟨g1,0,none⟩) (cl+1) k1))):=⟨⟨_,gM.out,gZ.out,gX.out⟩,hd.out.mono (by simp[World.setCell]),(gJ.out.trans (gx.out.mono (fun r hr=>by simp[Zan,hr]))).setCell (p:=⟨sb,3,none⟩) (gx.out.ext _ _ g9.out.own) (.inl rfl) _⟩;clear gn e1
    go_roundg (gk-1)
    case measure=>omega
    case rel=>exact⟨j+1,o3,h6.out,by have:=HJ.out;omega⟩
   ·have g5:id<(padC d.counts j).length:=by omega
    have gb:(id:Int)<(padC d.counts j).length:=by omega
    obtain⟨gc,cap,gi,gD,go,gT,gG,gE,ge⟩:=g0.countsAt g5;have g3:s2.vc=.slice (some ⟨gc,0,none⟩) (padC d.counts j).length cap:=gi;rw[g3] at c3;have gV:=ge _ g5;have gU:=gE id;have gK:sb≠gc:=fun e=>go e.symm
    have st3:=g0.setCount gi go id 0;have lt3:Zah o2 (wr.setCell ⟨gc,id,none⟩ (.int .i64 ((0:Nat):Int))):=gd.mono (by simp[World.setCell]);have st4:=st3.setDead lt3 (d.dead+1);have lt4:Zah o2 ((wr.setCell ⟨gc,id,none⟩ (.int .i64 ((0:Nat):Int))).setCell ⟨sb,4,none⟩ (.int .i64 ((d.dead+1:Nat):Int))):=lt3.mono (by simp[World.setCell]);have ch4:=(gf.setCell (p:=⟨gc,id,none⟩) gD (by simp[Zan]) (.int .i64 ((0:Nat):Int))).setCell (p:=⟨sb,4,none⟩) g0.own (by simp[Zan]) (.int .i64 ((d.dead+1:Nat):Int));have gF:d.dead<=1048577:=gy.out;have g8:(padC d.counts j).length<=9223372036854775807:=by omega
    obtain⟨W4,gs⟩:∃ W,W=(wr.setCell ⟨gc,id,none⟩ (.int .i64 ((0:Nat):Int))).setCell ⟨sb,4,none⟩ (.int .i64 ((d.dead+1:Nat):Int)):=⟨_,rfl⟩;rw[<- gs] at st4 lt4 ch4;have gu:Hid (W4=(wr.setCell ⟨gc,id,none⟩ (.int .i64 0)).setCell ⟨sb,4,none⟩ (.int .i64 ((d.dead:Int)+1))):=by
     show _=_
     rw[gs,show ((d.dead+1:Nat):Int)=(d.dead:Int)+1 from by omega];rfl
    have ga:=Hd st4;have gI:=Hd lt4;have hh:=Hd ch4;have he:=Hd g5;obtain⟨cl,g2⟩:∃ n,n=(padC d.counts j).length:=⟨_,rfl⟩;rw[<- g2] at gb c3 g6 g8;have gP:Hid ((padC d.counts j).length<=1048578):=by show _<=_;omega
    obtain⟨dn,gp⟩:∃ n,n=d.dead:=⟨_,rfl⟩;have c4':wr.cell? ⟨sb,4,none⟩=some (.int .i64 (dn:Nat)):=by rw[gp];exact c4
    rw[<- gp] at gF gu;clear g0 gd gf gl g4 gi gD go gT gG gE ge g3 st3 lt3 st4 lt4 ch4 gs hlt g5 c4 g2 gp g9 gh gJ hj;have gL:¬ ((cl:Int)<=id):=by omega
    go_upto_region 8 with fail;rw[<- gu.out];clear gu c0 c1 c2 c3 c4' f0 gV gU gK gb gL gF g6 g8;obtain⟨c0,c1,c2,c3,c4,f0⟩:=cells5 ga.out.blk;obtain⟨gt,ct,g4,cellv,gz⟩:=ga.out.tabAt (v:=v) HV.out;rw[g4] at c2;have gA:=ga.out.tab v (by rw[ga.out.tlen];exact HV.out);have gv:=Hd (Zyj o2 v (s2.ts.getD v 0) (d.tab v) lo hi id W4 gA gI.out HT.out);have hk:(v:Int)<s2.ts.length:=by omega
    obtain⟨tv,gj⟩:∃ t,t=s2.ts.getD v 0:=⟨_,rfl⟩;rw[<- gj] at cellv gv;have gY:=Hd gj;have hq:s2.ts.length<=9223372036854775807:=gz.2;clear gA gj g4 gz;go_wp2_with fail;refine gv.out.mono ?_;rintro x w5 ⟨rfl,gm,gq,gC⟩;rw[gY.out] at gm;have h0:=Hd (ga.out.setTab gI.out gm gq);have ha:=Hd gC;have hg:=Hd (hh.out.trans (gq.mono (fun r hr=>by simp[Zan,hr])));clear gm gq gC c0 c1 c2 c3 c4 f0 cellv;go_wp2_with fail
    go_ret2
    exact .inr ⟨id,d.added p' (padC d.counts j) id v lo hi,o2,rfl,⟨s2,h0.out⟩,ha.out,gN.out p' id j HR.out he.out gP.out,hg.out⟩
open Go.RowKit
def levN (d:Zac)(v:Nat):Nat:=d.level.getD v 0
structure Zaj (d:Zac)(V:Nat->BF):Prop where
 dag:Dag d.vars.length (levN d) (Zaa d) V
 live:Zb3 d (Zat d)
 tab:∀ v,v<d.vars.length->∀ lo hi id,d.tab v (lo,hi)=some id↔Zaa d id=some ⟨v,lo,hi⟩
 clen:d.counts.length<=1048578
 small:d.vars.length<=64
 inv:∀ v,v<d.vars.length->d.vars.getD (levN d v) 0=v
 vlt:∀ i,i<d.vars.length->d.vars.getD i 0<d.vars.length/\levN d (d.vars.getD i 0)=i
structure Ext (d:Zac)(V:Nat->BF)(d':Zac)(V':Nat->BF):Prop where
 vars:d'.vars=d.vars
 level:d'.level=d.level
 room:d'.pool.room=d.pool.room
 nodes:∀ i b,Zaa d i=some b->Zaa d' i=some b
 val:∀ i,(i=0\/∃ b,Zaa d i=some b)->V' i=V i
 ext:∀ i b,Zaa d i=some b->Zat d' i=Zat d i
 ext0:∀ i,Zaa d i=none->Zat d' i=0
 many:d.pool.many<=d'.pool.many
theorem Zek {d:Zac}{i:Nat}(h:Zaa d i=none):Zat d i=0:=by unfold Zat;rw[Zgo h];simp
theorem Ext.refl (d:Zac)(V:Nat->BF):Ext d V d V:=⟨rfl,rfl,rfl,fun _ _ h=>h,fun _ _=>rfl,fun _ _ _=>rfl,fun _ h=>Zek h,Nat.le_refl _⟩
theorem Ext.trans {d d' d'':Zac}{V V' V'':Nat->BF}(h:Ext d V d' V')(h':Ext d' V' d'' V''):Ext d V d'' V'':=by
 refine⟨h'.vars.trans h.vars,h'.level.trans h.level,h'.room.trans h.room,fun i b hb=>h'.nodes i b (h.nodes i b hb),fun i hi=>?_,fun i b hb=>?_,fun i hi=>?_,Nat.le_trans h.many h'.many⟩
 . rw[h'.val i (hi.imp id fun⟨b,hb⟩=>⟨b,h.nodes i b hb⟩)];exact h.val i hi
 . rw[h'.ext i b (h.nodes i b hb)];exact h.ext i b hb
 ·cases e:Zaa d' i with
  | none=>exact h'.ext0 i e
  | some b=>rw[h'.ext i b e];exact h.ext0 i hi
section
variable {d d':Zac}{V V':Nat->BF}
theorem Ext.ok (h:Ext d V d' V'){e:Nat}(he:okE (Zaa d) e):okE (Zaa d') e:=he.imp id fun⟨b,hb⟩=>⟨b,h.nodes _ b hb⟩
theorem Ext.ef (h:Ext d V d' V'){e:Nat}(he:okE (Zaa d) e):ef V' e=ef V e:=by
 funext ρ;unfold Go.Proofs.YtgmbklaolcmljaaGreat.ef;rw[h.val (e/2) he]
theorem Ext.lev (h:Ext d V d' V'):levN d'=levN d:=by funext v;unfold levN;rw[h.level]
theorem Ext.lvE (h:Ext d V d' V'){n:Nat}{e:Nat}(he:okE (Zaa d) e)(h0:Zaa d 0=none)(h0':Zaa d' 0=none):lvE n (levN d') (Zaa d') e=lvE n (levN d) (Zaa d) e:=by
 unfold Go.Proofs.YtgmbklaolcmljaaGreat.lvE;rw[h.lev];rcases he with he|⟨b,hb⟩
 . rw[he,h0,h0']
 . rw[hb,h.nodes _ b hb]
theorem Zwf {id v lo hi:Nat}(h:Zaj d V)(r:Zki d d' id v lo hi)(hv:v<d.vars.length)(hlo:okE (Zaa d) lo)(hhi:okE (Zaa d) hi)
 (llo:levN d v<lvE d.vars.length (levN d) (Zaa d) lo) (lhi:levN d v<lvE d.vars.length (levN d) (Zaa d) hi) (hr:hi%2=0) (hne:lo≠hi) (ht:d.tab v (lo,hi)=none) :
 Zaj d' (addV V id ⟨v,lo,hi⟩)/\Ext d V d' (addV V id ⟨v,lo,hi⟩):=by
 have g1:∀ i,Zaa d i≠some ⟨v,lo,hi⟩:=fun i e=>by rw[(h.tab v hv lo hi i).2 e] at ht;cases ht
 have hl:levN d'=levN d:=by funext u;unfold levN;rw[r.level]
 have hid:id≠0:=by have:=r.pos;omega
 refine⟨⟨?_,r.live,fun u hu lo' g0 i=>?_,r.clen,by rw[r.vars];exact h.small,?_,?_⟩,⟨r.vars,r.level,r.room,fun i b hb=>?_,fun i g0=>?_,fun i b hb=>?_,fun i g0=>?_,by rw[r.many];omega⟩⟩
 . rw[r.vars,hl,r.nodes];exact h.dag.add r.none hid hv hlo hhi llo lhi hr hne g1
 ·rw[r.vars] at hu;rw[r.tab,r.nodes];dsimp only
  by_cases e:u=v
  ·subst e;rw[if_pos rfl];unfold putF
   by_cases e2:(lo',g0)=(lo,hi)
   ·cases e2;rw[if_pos rfl];constructor
    . intro e3;cases e3;rw[Zbm]
    ·intro e3
     by_cases e4:i=id
     . rw[e4]
     . rw[Zay _ e4] at e3;exact absurd e3 (g1 i)
   ·rw[if_neg e2,h.tab u hu]
    by_cases e4:i=id
    ·subst e4;rw[Zbm,r.none];constructor
     . intro e5;cases e5
     . intro e5;cases e5;exact absurd rfl e2
    . rw[Zay _ e4]
  ·rw[if_neg e,h.tab u hu]
   by_cases e4:i=id
   ·subst e4;rw[Zbm,r.none];constructor
    . intro e5;cases e5
    . intro e5;cases e5;exact absurd rfl e
   . rw[Zay _ e4]
 . rw[r.vars,hl];exact h.inv
 . rw[r.vars,hl];exact h.vlt
 . rw[r.nodes];exact Znh r.none hb
 ·unfold addV;rw[if_neg];rintro rfl;rcases g0 with g0|⟨b,hb⟩
  . exact hid g0
  . rw[r.none] at hb;cases hb
 . rw[r.ext];dsimp only;rw[if_neg];rintro rfl;rw[r.none] at hb;cases hb
 ·rw[r.ext];dsimp only;split
  . rfl
  . exact Zek g0
theorem Zx8 (h:Zaj d V){id v lo hi:Nat}(hb:Zaa d id=some ⟨v,eflip lo (eneg hi),eflip hi (eneg hi)⟩):ef V (eflip (2*id) (eneg hi))=iteF v (ef V hi) (ef V lo):=by
 funext ρ;have h1:=h.dag.eqn id _ hb;have h2:ef V (2*id)=V id:=by
  funext ρ;have e1:2*id/2=id:=by omega
  have e2:2*id%2=0:=by omega
  simp[ef,e1,e2]
 rw[Zcz,h2,h1];simp only[iteF];rw[Zcz,Zcz];cases ρ v<;>cases eneg hi<;>simp
theorem Zmn (hi:Nat):eflip hi (eneg hi)%2=0:=by
 unfold eflip eneg;rcases Nat.mod_two_eq_zero_or_one hi with h|h
 . simp[h]
 . simp[h,Zj8]
theorem Zj6 {lo hi:Nat}{b:Bool}(h:lo≠hi):eflip lo b≠eflip hi b:=by
 unfold eflip;cases b
 . simpa using h
 . simp only[if_true];intro e;have:=congrArg enot e;rw[Zpm,Zpm] at this;exact h this
theorem Zd5 {n:Nat}{lev:Nat->Nat}{N:Nat->Option BN}{e:Nat}{b:Bool}:lvE n lev N (eflip e b)=lvE n lev N e:=by unfold lvE;rw[Zco]
end
def Zf7 (d:Zac)(v:Int):Int:=if 0<=v/\v<d.level.length then (levN d v.toNat:Nat) else -1
theorem Zu5 (d:Zac)(v:Nat):Zf7 d v=d.levelOf v:=by
 unfold Zf7 Zac.levelOf levN
 by_cases h:v<d.level.length
 . rw[if_pos ⟨by omega,by omega⟩,if_pos h];rfl
 . rw[if_neg (by omega),if_neg h]
theorem Zk5 {o:Own}{w:World}{sb:Nat}{d:Zac}{s:Zaw}(h:Zal o w sb d s)(v:Int)(hv:v<0) :
 Calls prog 153 #[.pointer (some ⟨s.lb,0,none⟩),.int .i64 v] w fun x w'=>x=.returned (.int .i64 (-1))/\w=w':=by
 clear h
 go_enter func153,ntmps153
 go_wp2_with fail;go_ret;exact⟨rfl,rfl⟩
theorem Zme {o:Own}{w:World}{sb:Nat}{d:Zac}{s:Zaw}(h:Zal o w sb d s)(v:Int)(hv:v<0) :
 Calls prog 114 #[.pointer (some ⟨sb,0,none⟩),.int .i64 v] w fun x w'=>x=.returned (.int .i64 (-1))/\w=w':=by
 obtain⟨c0,c1,c2,c3,c4,f0⟩:=cells5 h.blk;have HC:=Hd (Zk5 h v hv);clear h hv
 go_enter func114,ntmps114
 go_wp2_with fail;refine HC.out.mono ?_;rintro x w' ⟨rfl,rfl⟩;go_wp2_with fail;go_ret;exact⟨rfl,rfl⟩
theorem Zh2 {o:Own}{w:World}{sb:Nat}{d:Zac}{s:Zaw}(h:Zal o w sb d s)(v:Int)(hbig:d.level.length<1000000) :
 Calls prog 114 #[.pointer (some ⟨sb,0,none⟩),.int .i64 v] w fun x w'=>x=.returned (.int .i64 (Zf7 d v))/\w=w':=by
 by_cases h0:v<0
 ·have e:Zf7 d v = -1:=by unfold Zf7;rw[if_neg (by omega)]
  rw[e];exact Zme h v h0
 . obtain⟨n,rfl⟩:=Int.eq_ofNat_of_zero_le (by omega:0<=v);have e:=Zu5 d n;rw[e];exact Zbz h n hbig
open Go.RowKit
def Zfc (o:Own)(w:World)(sb:Nat)(d:Zac)(V:Nat->BF)(v:Int)(lo hi:Nat)(e:Ending)(w':World):Prop :=
 (¬ (0<=v/\v<d.vars.length)/\e=.returned (.tuple #[.int .i64 0,.int .i64 9])/\Below w.heap.size w w') \/
 (0<=v/\v<d.vars.length/\(lvE d.vars.length (levN d) (Zaa d) lo<=levN d v.toNat\/lvE d.vars.length (levN d) (Zaa d) hi<=levN d v.toNat)/\e=.returned (.tuple #[.int .i64 0,.int .i64 10])/\Below w.heap.size w w') \/
 (d.pool.many=d.pool.room/\e=.returned (.tuple #[.int .i64 0,.int .i64 7])/\Below w.heap.size w w') \/
 (0<=v/\v<d.vars.length/\∃ r d' V' o',e=.returned (.tuple #[.int .i64 (r:Nat),.int .i64 0])/\Zaq o' w' sb d'/\Zah o' w'/\Zaj d' V'/\Ext d V d' V'/\okE (Zaa d') r /\
  ef V' r=iteF v.toNat (ef V hi) (ef V lo)/\levN d v.toNat<=lvE d.vars.length (levN d') (Zaa d') r/\d'.pool.many<=d.pool.many+1/\Chg Zan o o' w w')
theorem Zd0 {o:Own}{w:World}{sb:Nat}{d:Zac}{s:Zaw}{V:Nat->BF}(h:Zal o w sb d s)(hk:Zaj d V){f:Nat}(hf:okE (Zaa d) f){lv:Nat}(hl:lv<d.vars.length) :
 (decide (enode f=0)||(d.pool.tk (enode f)&&decide ((lv:Int)<d.levelOf (d.pool.has (enode f)).v)))=decide (lv<lvE d.vars.length (levN d) (Zaa d) f):=by
 unfold lvE;rcases hf with h0|⟨b,hb⟩
 . have e:enode f=0:=h0;rw[h0,hk.dag.none0,e];simp[hl]
 ·have hn:=Zax (i:=enode f) hb;have e0:enode f≠0:=by have:=(h.tk_lt (i:=enode f) hb).1;omega
  rw[hb,hn.1];have hv:(d.pool.has (enode f)).v=b.v:=by rw[<- hn.2.2];rfl
  have g0:=hk.dag.var _ _ hb;rw[hv];unfold Zac.levelOf;rw[if_pos (by rw[h.len];exact g0)];simp[e0,levN]
theorem Zk1 {d:Zac}{f:Nat}(hf:okE (Zaa d) f):(decide (enode f=0)||d.pool.tk (enode f))=true:=by
 rcases hf with h0|⟨b,hb⟩
 . have e:enode f=0:=h0;simp[e]
 . rw[(Zax (i:=enode f) hb).1];simp
theorem Yey {o:Own}{w:World}{sb:Nat}{d:Zac}{s:Zaw}{V:Nat->BF}(h:Zal o w sb d s)(hk:Zaj d V)(v:Int)(lo hi:Nat)(hv:¬ (0<=v/\v<d.vars.length)) :
 Calls prog 156 #[.pointer (some ⟨sb,0,none⟩),.int .i64 v,.int .i64 lo,.int .i64 hi] w (Zfc o w sb d V v lo hi):=by
 have g0:=Hd (Zh2 h v (by rw[h.len];have:=hk.small;omega));have e:Zf7 d v = -1:=by unfold Zf7;rw[if_neg (by rw[h.len];exact hv)]
 rw[e] at g0;have HV:=Hd hv;clear h hk e hv
 go_enter func156,ntmps156
 go_wp2_with fail;refine g0.out.mono ?_;rintro x w' ⟨rfl,rfl⟩;go_wp2_with fail
 go_ret2
 exact .inl ⟨HV.out,rfl,Below.refl _ _⟩
theorem Yfd {o:Own}{w:World}{sb:Nat}{d:Zac}{s:Zaw}{V:Nat->BF}(h:Zal o w sb d s)(hlt:Zah o w)(hk:Zaj d V)(v lo hi:Nat)(hv:v<d.vars.length)(hlo:okE (Zaa d) lo)(hhi:okE (Zaa d) hi)(hbad:lvE d.vars.length (levN d) (Zaa d) lo<=levN d v) :
 Calls prog 156 #[.pointer (some ⟨sb,0,none⟩),.int .i64 v,.int .i64 lo,.int .i64 hi] w (Zfc o w sb d V v lo hi):=by
 have g3:levN d v<d.vars.length:=hk.dag.lt v hv;have gb:=h.edge_lt hlo;have gc:=h.edge_lt hhi;have g1:lo<eMax:=by unfold eMax;omega
 have g2:hi<eMax:=by unfold eMax;omega
 have g0:d.level.length<1000000:=by rw[h.len];have:=hk.small;omega
 have g5:Hid (∀ W:World,Below w.heap.size w W->Calls prog 114 #[.pointer (some ⟨sb,0,none⟩),.int .i64 v] W fun x w'=>x=.returned (.int .i64 (levN d v:Nat))/\W=w'):=fun W hb=>by
  have h1:=Zbz (h.below hlt hb) v g0;unfold Zac.levelOf at h1;rw[if_pos (by rw[h.len];exact hv)] at h1;exact h1
 have gd:Hid (∀ W:World,Below w.heap.size w W->Calls prog 155 #[.pointer (some ⟨sb,0,none⟩),.int .i64 lo] W fun x w'=>x=.returned (.bool true)/\Below W.heap.size W w'):=fun W hb=>by
  have h1:=Za8 (h.below hlt hb) (hlt.mono hb.size) lo g1;rw[Zk1 hlo] at h1;exact h1
 have ge:Hid (∀ W:World,Below w.heap.size w W->Calls prog 155 #[.pointer (some ⟨sb,0,none⟩),.int .i64 hi] W fun x w'=>x=.returned (.bool true)/\Below W.heap.size W w'):=fun W hb=>by
  have h1:=Za8 (h.below hlt hb) (hlt.mono hb.size) hi g2;rw[Zk1 hhi] at h1;exact h1
 have g4:Hid (∀ W:World,Below w.heap.size w W->Calls prog 178 #[.pointer (some ⟨sb,0,none⟩),.int .i64 lo,.int .i64 (levN d v:Nat)] W fun x w'=>x=.returned (.bool (decide (levN d v<lvE d.vars.length (levN d) (Zaa d) lo)))/\Below W.heap.size W w'):=fun W hb=>by
  have h1:=Za9 (h.below hlt hb) (hlt.mono hb.size) lo g1 (levN d v:Nat) g0;rw[Zd0 h hk hlo g3] at h1;exact h1
 have gf:Hid (∀ W:World,Below w.heap.size w W->Calls prog 178 #[.pointer (some ⟨sb,0,none⟩),.int .i64 hi,.int .i64 (levN d v:Nat)] W fun x w'=>x=.returned (.bool (decide (levN d v<lvE d.vars.length (levN d) (Zaa d) hi)))/\Below W.heap.size W w'):=fun W hb=>by
  have h1:=Za9 (h.below hlt hb) (hlt.mono hb.size) hi g2 (levN d v:Nat) g0;rw[Zd0 h hk hhi g3] at h1;exact h1
 have g7:Hid (∀ W,Below w.heap.size w W->Zfc o w sb d V v lo hi (.returned (.tuple #[.int .i64 0,.int .i64 10])) W):=fun W hb=>.inr (.inl ⟨by omega,by omega,.inl hbad,rfl,hb⟩)
 rw[decide_eq_false (by omega)] at g4;obtain⟨l,hl⟩:∃ l,l=levN d v:=⟨_,rfl⟩;rw[<- hl] at g5 g4 gf;have gh:¬ ((l:Nat):Int)<0:=by omega
 clear h hlt hk hv hlo hhi hbad g3 gb gc g1 g2 g0 hl
 go_enter func156,ntmps156
 go_wp2_with fail;refine(g5.out _ (Below.refl _ _)).mono ?_;rintro x w' ⟨rfl,rfl⟩;go_wp2_with fail;refine(gd.out _ (Below.refl _ _)).mono ?_;rintro x w1 ⟨rfl,ga⟩;have g6:=Hd ga;clear ga;go_wp2_with fail;refine(ge.out _ g6.out).mono ?_;rintro x w2 ⟨rfl,g9⟩;have HB2:=Hd (g6.out.trans (g9.mono g6.out.size));clear g9;go_wp2_with fail;refine(g5.out _ HB2.out).mono ?_;rintro x w' ⟨rfl,rfl⟩;go_wp2_with fail;refine(g4.out _ HB2.out).mono ?_;rintro x w3 ⟨rfl,g8⟩;have gg:=Hd (HB2.out.trans (g8.mono HB2.out.size));clear g8;go_wp2_with fail
 go_ret2
 exact g7.out _ gg.out
theorem Yfc {o:Own}{w:World}{sb:Nat}{d:Zac}{s:Zaw}{V:Nat->BF}(h:Zal o w sb d s)(hlt:Zah o w)(hk:Zaj d V)(v lo hi:Nat)(hv:v<d.vars.length)(hlo:okE (Zaa d) lo)(hhi:okE (Zaa d) hi)(hbad:lvE d.vars.length (levN d) (Zaa d) hi<=levN d v)(hgood:levN d v<lvE d.vars.length (levN d) (Zaa d) lo) :
 Calls prog 156 #[.pointer (some ⟨sb,0,none⟩),.int .i64 v,.int .i64 lo,.int .i64 hi] w (Zfc o w sb d V v lo hi):=by
 have g5:levN d v<d.vars.length:=hk.dag.lt v hv;have ge:=h.edge_lt hlo;have gf:=h.edge_lt hhi;have g1:lo<eMax:=by unfold eMax;omega
 have g2:hi<eMax:=by unfold eMax;omega
 have g0:d.level.length<1000000:=by rw[h.len];have:=hk.small;omega
 have g3:Hid (∀ W:World,Below w.heap.size w W->Calls prog 114 #[.pointer (some ⟨sb,0,none⟩),.int .i64 v] W fun x w'=>x=.returned (.int .i64 (levN d v:Nat))/\W=w'):=fun W hb=>by
  have h1:=Zbz (h.below hlt hb) v g0;unfold Zac.levelOf at h1;rw[if_pos (by rw[h.len];exact hv)] at h1;exact h1
 have gg:Hid (∀ W:World,Below w.heap.size w W->Calls prog 155 #[.pointer (some ⟨sb,0,none⟩),.int .i64 lo] W fun x w'=>x=.returned (.bool true)/\Below W.heap.size W w'):=fun W hb=>by
  have h1:=Za8 (h.below hlt hb) (hlt.mono hb.size) lo g1;rw[Zk1 hlo] at h1;exact h1
 have gh:Hid (∀ W:World,Below w.heap.size w W->Calls prog 155 #[.pointer (some ⟨sb,0,none⟩),.int .i64 hi] W fun x w'=>x=.returned (.bool true)/\Below W.heap.size W w'):=fun W hb=>by
  have h1:=Za8 (h.below hlt hb) (hlt.mono hb.size) hi g2;rw[Zk1 hhi] at h1;exact h1
 have g6:Hid (∀ W:World,Below w.heap.size w W->Calls prog 178 #[.pointer (some ⟨sb,0,none⟩),.int .i64 lo,.int .i64 (levN d v:Nat)] W fun x w'=>x=.returned (.bool (decide (levN d v<lvE d.vars.length (levN d) (Zaa d) lo)))/\Below W.heap.size W w'):=fun W hb=>by
  have h1:=Za9 (h.below hlt hb) (hlt.mono hb.size) lo g1 (levN d v:Nat) g0;rw[Zd0 h hk hlo g5] at h1;exact h1
 have g7:Hid (∀ W:World,Below w.heap.size w W->Calls prog 178 #[.pointer (some ⟨sb,0,none⟩),.int .i64 hi,.int .i64 (levN d v:Nat)] W fun x w'=>x=.returned (.bool (decide (levN d v<lvE d.vars.length (levN d) (Zaa d) hi)))/\Below W.heap.size W w'):=fun W hb=>by
  have h1:=Za9 (h.below hlt hb) (hlt.mono hb.size) hi g2 (levN d v:Nat) g0;rw[Zd0 h hk hhi g5] at h1;exact h1
 have g9:Hid (∀ W,Below w.heap.size w W->Zfc o w sb d V v lo hi (.returned (.tuple #[.int .i64 0,.int .i64 10])) W):=fun W hb=>.inr (.inl ⟨by omega,by omega,.inr hbad,rfl,hb⟩)
 rw[decide_eq_true hgood] at g6;rw[decide_eq_false (by omega)] at g7;obtain⟨l,hl⟩:∃ l,l=levN d v:=⟨_,rfl⟩;rw[<- hl] at g3 g6 g7;have gj:¬ ((l:Nat):Int)<0:=by omega
 clear h hlt hk hv hlo hhi hbad g5 ge gf g1 g2 g0 hl hgood
 go_enter func156,ntmps156
 go_wp2_with fail;refine(g3.out _ (Below.refl _ _)).mono ?_;rintro x w' ⟨rfl,rfl⟩;go_wp2_with fail;refine(gg.out _ (Below.refl _ _)).mono ?_;rintro x w1 ⟨rfl,gd⟩;have g8:=Hd gd;clear gd;go_wp2_with fail;refine(gh.out _ g8.out).mono ?_;rintro x w2 ⟨rfl,gc⟩;have HB2:=Hd (g8.out.trans (gc.mono g8.out.size));clear gc;go_wp2_with fail;refine(g3.out _ HB2.out).mono ?_;rintro x w' ⟨rfl,rfl⟩;go_wp2_with fail;refine(g6.out _ HB2.out).mono ?_;rintro x w3 ⟨rfl,gb⟩;have g4:=Hd (HB2.out.trans (gb.mono HB2.out.size));clear gb;go_wp2_with fail;refine(g3.out _ g4.out).mono ?_;rintro x w' ⟨rfl,rfl⟩;go_wp2_with fail;refine(g7.out _ g4.out).mono ?_;rintro x w4 ⟨rfl,ga⟩;have gi:=Hd (g4.out.trans (ga.mono g4.out.size));clear ga;go_wp2_with fail
 go_ret2
 exact g9.out _ gi.out
theorem Yfb {o:Own}{w:World}{sb:Nat}{d:Zac}{s:Zaw}{V:Nat->BF}(h:Zal o w sb d s)(hlt:Zah o w)(hk:Zaj d V)(v lo hi:Nat)(hv:v<d.vars.length)(hlo:okE (Zaa d) lo)(hhi:okE (Zaa d) hi)(hgl:levN d v<lvE d.vars.length (levN d) (Zaa d) lo)(hgh:levN d v<lvE d.vars.length (levN d) (Zaa d) hi)(he:lo=hi) :
 Calls prog 156 #[.pointer (some ⟨sb,0,none⟩),.int .i64 v,.int .i64 lo,.int .i64 hi] w (Zfc o w sb d V v lo hi):=by
 have g5:levN d v<d.vars.length:=hk.dag.lt v hv;have ge:=h.edge_lt hlo;have gf:=h.edge_lt hhi;have g1:lo<eMax:=by unfold eMax;omega
 have g2:hi<eMax:=by unfold eMax;omega
 have g0:d.level.length<1000000:=by rw[h.len];have:=hk.small;omega
 have g3:Hid (∀ W:World,Below w.heap.size w W->Calls prog 114 #[.pointer (some ⟨sb,0,none⟩),.int .i64 v] W fun x w'=>x=.returned (.int .i64 (levN d v:Nat))/\W=w'):=fun W hb=>by
  have h1:=Zbz (h.below hlt hb) v g0;unfold Zac.levelOf at h1;rw[if_pos (by rw[h.len];exact hv)] at h1;exact h1
 have gg:Hid (∀ W:World,Below w.heap.size w W->Calls prog 155 #[.pointer (some ⟨sb,0,none⟩),.int .i64 lo] W fun x w'=>x=.returned (.bool true)/\Below W.heap.size W w'):=fun W hb=>by
  have h1:=Za8 (h.below hlt hb) (hlt.mono hb.size) lo g1;rw[Zk1 hlo] at h1;exact h1
 have gh:Hid (∀ W:World,Below w.heap.size w W->Calls prog 155 #[.pointer (some ⟨sb,0,none⟩),.int .i64 hi] W fun x w'=>x=.returned (.bool true)/\Below W.heap.size W w'):=fun W hb=>by
  have h1:=Za8 (h.below hlt hb) (hlt.mono hb.size) hi g2;rw[Zk1 hhi] at h1;exact h1
 have g6:Hid (∀ W:World,Below w.heap.size w W->Calls prog 178 #[.pointer (some ⟨sb,0,none⟩),.int .i64 lo,.int .i64 (levN d v:Nat)] W fun x w'=>x=.returned (.bool (decide (levN d v<lvE d.vars.length (levN d) (Zaa d) lo)))/\Below W.heap.size W w'):=fun W hb=>by
  have h1:=Za9 (h.below hlt hb) (hlt.mono hb.size) lo g1 (levN d v:Nat) g0;rw[Zd0 h hk hlo g5] at h1;exact h1
 have g7:Hid (∀ W:World,Below w.heap.size w W->Calls prog 178 #[.pointer (some ⟨sb,0,none⟩),.int .i64 hi,.int .i64 (levN d v:Nat)] W fun x w'=>x=.returned (.bool (decide (levN d v<lvE d.vars.length (levN d) (Zaa d) hi)))/\Below W.heap.size W w'):=fun W hb=>by
  have h1:=Za9 (h.below hlt hb) (hlt.mono hb.size) hi g2 (levN d v:Nat) g0;rw[Zd0 h hk hhi g5] at h1;exact h1
 subst he
 have g9:Hid (∀ W,Below w.heap.size w W->Zfc o w sb d V v lo lo (.returned (.tuple #[.int .i64 (lo:Nat),.int .i64 0])) W):=fun W hb=>.inr (.inr (.inr ⟨by omega,by omega,lo,d,V,o,rfl,⟨s,h.below hlt hb⟩,hlt.mono hb.size,hk,Ext.refl d V,hlo,by
  funext ρ;simp[iteF],Nat.le_of_lt hgl,by omega,Chg.of_below hb _ _⟩))
 rw[decide_eq_true hgl] at g6;rw[decide_eq_true hgh] at g7;obtain⟨l,hl⟩:∃ l,l=levN d v:=⟨_,rfl⟩;rw[<- hl] at g3 g6 g7;have gj:¬ ((l:Nat):Int)<0:=by omega
 clear h hlt hk hv hlo hhi g5 ge gf g1 g2 g0 hl hgl hgh
 go_enter func156,ntmps156
 go_wp2_with fail;refine(g3.out _ (Below.refl _ _)).mono ?_;rintro x w' ⟨rfl,rfl⟩;go_wp2_with fail;refine(gg.out _ (Below.refl _ _)).mono ?_;rintro x w1 ⟨rfl,gd⟩;have g8:=Hd gd;clear gd;go_wp2_with fail;refine(gh.out _ g8.out).mono ?_;rintro x w2 ⟨rfl,gc⟩;have HB2:=Hd (g8.out.trans (gc.mono g8.out.size));clear gc;go_wp2_with fail;refine(g3.out _ HB2.out).mono ?_;rintro x w' ⟨rfl,rfl⟩;go_wp2_with fail;refine(g6.out _ HB2.out).mono ?_;rintro x w3 ⟨rfl,gb⟩;have g4:=Hd (HB2.out.trans (gb.mono HB2.out.size));clear gb;go_wp2_with fail;refine(g3.out _ g4.out).mono ?_;rintro x w' ⟨rfl,rfl⟩;go_wp2_with fail;refine(g7.out _ g4.out).mono ?_;rintro x w4 ⟨rfl,ga⟩;have gi:=Hd (g4.out.trans (ga.mono g4.out.size));clear ga;go_wp2_with fail
 go_ret2
 exact g9.out _ gi.out
def Ybv (w:World)(r:Nat)(e:Ending)(w':World):Prop:=e=.returned (.tuple #[.int .i64 (r:Nat),.int .i64 0])/\Below w.heap.size w w'
theorem Zx2 {o:Own}{w:World}{sb:Nat}{d:Zac}{s:Zaw}{V:Nat->BF}(h:Zal o w sb d s)(hlt:Zah o w)(hk:Zaj d V)(v lo hi:Nat)(hv:v<d.vars.length)(hlo:okE (Zaa d) lo)(hhi:okE (Zaa d) hi)(hgl:levN d v<lvE d.vars.length (levN d) (Zaa d) lo)(hgh:levN d v<lvE d.vars.length (levN d) (Zaa d) hi)(he:lo≠hi)(id:Nat)(hid:d.tab v (eflip lo (eneg hi),eflip hi (eneg hi))=some id) :
 Calls prog 156 #[.pointer (some ⟨sb,0,none⟩),.int .i64 v,.int .i64 lo,.int .i64 hi] w (Ybv w (eflip (2*id) (eneg hi))):=by
 have ga:levN d v<d.vars.length:=hk.dag.lt v hv;have go:=h.edge_lt hlo;have gq:=h.edge_lt hhi;have g0:lo<eMax:=by unfold eMax;omega
 have g2:hi<eMax:=by unfold eMax;omega
 have g1:d.level.length<1000000:=by rw[h.len];have:=hk.small;omega
 have g7:Hid (∀ W:World,Below w.heap.size w W->Calls prog 114 #[.pointer (some ⟨sb,0,none⟩),.int .i64 v] W fun x w'=>x=.returned (.int .i64 (levN d v:Nat))/\W=w'):=fun W hb=>by
  have h1:=Zbz (h.below hlt hb) v g1;unfold Zac.levelOf at h1;rw[if_pos (by rw[h.len];exact hv)] at h1;exact h1
 have gr:Hid (∀ W:World,Below w.heap.size w W->Calls prog 155 #[.pointer (some ⟨sb,0,none⟩),.int .i64 lo] W fun x w'=>x=.returned (.bool true)/\Below W.heap.size W w'):=fun W hb=>by
  have h1:=Za8 (h.below hlt hb) (hlt.mono hb.size) lo g0;rw[Zk1 hlo] at h1;exact h1
 have gs:Hid (∀ W:World,Below w.heap.size w W->Calls prog 155 #[.pointer (some ⟨sb,0,none⟩),.int .i64 hi] W fun x w'=>x=.returned (.bool true)/\Below W.heap.size W w'):=fun W hb=>by
  have h1:=Za8 (h.below hlt hb) (hlt.mono hb.size) hi g2;rw[Zk1 hhi] at h1;exact h1
 have gc:Hid (∀ W:World,Below w.heap.size w W->Calls prog 178 #[.pointer (some ⟨sb,0,none⟩),.int .i64 lo,.int .i64 (levN d v:Nat)] W fun x w'=>x=.returned (.bool (decide (levN d v<lvE d.vars.length (levN d) (Zaa d) lo)))/\Below W.heap.size W w'):=fun W hb=>by
  have h1:=Za9 (h.below hlt hb) (hlt.mono hb.size) lo g0 (levN d v:Nat) g1;rw[Zd0 h hk hlo ga] at h1;exact h1
 have gd:Hid (∀ W:World,Below w.heap.size w W->Calls prog 178 #[.pointer (some ⟨sb,0,none⟩),.int .i64 hi,.int .i64 (levN d v:Nat)] W fun x w'=>x=.returned (.bool (decide (levN d v<lvE d.vars.length (levN d) (Zaa d) hi)))/\Below W.heap.size W w'):=fun W hb=>by
  have h1:=Za9 (h.below hlt hb) (hlt.mono hb.size) hi g2 (levN d v:Nat) g1;rw[Zd0 h hk hhi ga] at h1;exact h1
 have g5:=(hk.tab v hv _ _ id).1 hid;have gp:=(h.tk_lt g5).2;have g6:Hid (∀ W,Below w.heap.size w W->Ybv w (eflip (2*id) (eneg hi)) (.returned (.tuple #[.int .i64 (eflip (2*id) (eneg hi):Nat),.int .i64 0])) W):=fun W hb=>⟨rfl,hb⟩
 have gn:=Hd (fun W=>Ztc id (eneg hi) W (by omega));rw[decide_eq_true hgl] at gc;rw[decide_eq_true hgh] at gd;obtain⟨l,hl⟩:∃ l,l=levN d v:=⟨_,rfl⟩;rw[<- hl] at g7 gc gd;have gA:¬ ((l:Nat):Int)<0:=by omega
 have gy:((lo:Int) == hi)=false:=by simp;omega
 have g3:=Hd (fun W=>Zkd lo hi W g0 g2);have HH:=Hd h;have ge:=Hd hlt;have HV:=Hd hv;have HF:=Hd (fun W (hb:Below w.heap.size w W)=>Znt o v (s.ts.getD v 0) (d.tab v) (eflip lo (eneg hi)) (eflip hi (eneg hi)) id W ((h.below hlt hb).tab v (by rw[h.tlen];exact hv)) hid);obtain⟨lo2,g9⟩:∃ x,x=eflip lo (eneg hi):=⟨_,rfl⟩;obtain⟨gB,gb⟩:∃ x,x=eflip hi (eneg hi):=⟨_,rfl⟩;obtain⟨ng,gi⟩:∃ x,x=eneg hi:=⟨_,rfl⟩;rw[<- g9,<- gb] at g3 HF;rw[<- gi] at g3 gn g6 ⊢;clear h hlt hk hv hlo hhi ga go gq g0 g2 g1 hl hgl hgh he hid g5 gp g9 gb gi
 go_enter func156,ntmps156
 go_wp2_with fail;refine(g7.out _ (Below.refl _ _)).mono ?_;rintro x w' ⟨rfl,rfl⟩;go_wp2_with fail;refine(gr.out _ (Below.refl _ _)).mono ?_;rintro x w1 ⟨rfl,gm⟩;have gf:=Hd gm;clear gm;go_wp2_with fail;refine(gs.out _ gf.out).mono ?_;rintro x w2 ⟨rfl,gl⟩;have HB2:=Hd (gf.out.trans (gl.mono gf.out.size));clear gl;go_wp2_with fail;refine(g7.out _ HB2.out).mono ?_;rintro x w' ⟨rfl,rfl⟩;go_wp2_with fail;refine(gc.out _ HB2.out).mono ?_;rintro x w3 ⟨rfl,gk⟩;have g8:=Hd (HB2.out.trans (gk.mono HB2.out.size));clear gk;go_wp2_with fail;refine(g7.out _ g8.out).mono ?_;rintro x w' ⟨rfl,rfl⟩;go_wp2_with fail;refine(gd.out _ g8.out).mono ?_;rintro x w4 ⟨rfl,gj⟩;have g4:=Hd (g8.out.trans (gj.mono g8.out.size));clear gj;go_wp2_with fail;obtain⟨gt,ct,gg,cellv,gu,gz⟩:=(HH.out.below ge.out g4.out).tabAt HV.out;obtain⟨c0,c1,c2,c3,c4,f0⟩:=cells5 (HH.out.below ge.out g4.out).blk;rw[gg] at c2;have gx:(v:Int)<s.ts.length:=by omega
 have gv:=(HH.out.below ge.out g4.out).tab v gu;clear gg;refine(g3.out _).mono ?_;rintro x w' ⟨rfl,rfl⟩;have hf:=HF.out _ g4.out;clear gv;obtain⟨tv,gh⟩:∃ t,t=s.ts.getD v 0:=⟨_,rfl⟩;rw[<- gh] at cellv hf;have gw:=Hd hf;clear gh hf;go_wp2_with fail;refine gw.out.mono ?_;rintro x w' ⟨rfl,rfl⟩;go_wp2_with fail;refine(gn.out _).mono ?_;rintro x w' ⟨rfl,rfl⟩;go_wp2_with fail
 go_ret2
 exact g6.out _ g4.out
theorem Yam {o:Own}{w:World}{sb:Nat}{d:Zac}{s:Zaw}{V:Nat->BF}(h:Zal o w sb d s)(hlt:Zah o w)(hk:Zaj d V)(v lo hi:Nat)(hv:v<d.vars.length)(hlo:okE (Zaa d) lo)(hhi:okE (Zaa d) hi)(hgl:levN d v<lvE d.vars.length (levN d) (Zaa d) lo)(hgh:levN d v<lvE d.vars.length (levN d) (Zaa d) hi)(he:lo≠hi)(id:Nat)(hid:d.tab v (eflip lo (eneg hi),eflip hi (eneg hi))=some id) :
 Calls prog 156 #[.pointer (some ⟨sb,0,none⟩),.int .i64 v,.int .i64 lo,.int .i64 hi] w (Zfc o w sb d V v lo hi):=by
 have g0:=(hk.tab v hv _ _ id).1 hid;have g1:=(h.tk_lt g0).2;refine(Zx2 h hlt hk v lo hi hv hlo hhi hgl hgh he id hid).mono ?_;rintro e w' ⟨rfl,hb⟩
 exact .inr (.inr (.inr ⟨by omega,by omega,_,d,V,o,rfl,⟨s,h.below hlt hb⟩,hlt.mono hb.size,hk,Ext.refl d V,Zd6 (Zgp g0),
  Zx8 hk g0,by rw[Zd5];unfold lvE;rw[show 2*id/2=id from by omega,g0];exact Nat.le_refl _,by omega,Chg.of_below hb _ _⟩))
theorem Yex {o:Own}{w:World}{sb:Nat}{d:Zac}{s:Zaw}{V:Nat->BF}(h:Zal o w sb d s)(hlt:Zah o w)(hk:Zaj d V)(v lo hi:Nat)(hv:v<d.vars.length)(hlo:okE (Zaa d) lo)(hhi:okE (Zaa d) hi)(hgl:levN d v<lvE d.vars.length (levN d) (Zaa d) lo)(hgh:levN d v<lvE d.vars.length (levN d) (Zaa d) hi)(he:lo≠hi)(hid:d.tab v (eflip lo (eneg hi),eflip hi (eneg hi))=none) :
 Calls prog 156 #[.pointer (some ⟨sb,0,none⟩),.int .i64 v,.int .i64 lo,.int .i64 hi] w (Zfc o w sb d V v lo hi):=by
 have ga:levN d v<d.vars.length:=hk.dag.lt v hv;have gs:=h.edge_lt hlo;have gv:=h.edge_lt hhi;have g2:lo<eMax:=by unfold eMax;omega
 have g4:hi<eMax:=by unfold eMax;omega
 have g3:d.level.length<1000000:=by rw[h.len];have:=hk.small;omega
 have g7:Hid (∀ W:World,Below w.heap.size w W->Calls prog 114 #[.pointer (some ⟨sb,0,none⟩),.int .i64 v] W fun x w'=>x=.returned (.int .i64 (levN d v:Nat))/\W=w'):=fun W hb=>by
  have h1:=Zbz (h.below hlt hb) v g3;unfold Zac.levelOf at h1;rw[if_pos (by rw[h.len];exact hv)] at h1;exact h1
 have gw:Hid (∀ W:World,Below w.heap.size w W->Calls prog 155 #[.pointer (some ⟨sb,0,none⟩),.int .i64 lo] W fun x w'=>x=.returned (.bool true)/\Below W.heap.size W w'):=fun W hb=>by
  have h1:=Za8 (h.below hlt hb) (hlt.mono hb.size) lo g2;rw[Zk1 hlo] at h1;exact h1
 have gx:Hid (∀ W:World,Below w.heap.size w W->Calls prog 155 #[.pointer (some ⟨sb,0,none⟩),.int .i64 hi] W fun x w'=>x=.returned (.bool true)/\Below W.heap.size W w'):=fun W hb=>by
  have h1:=Za8 (h.below hlt hb) (hlt.mono hb.size) hi g4;rw[Zk1 hhi] at h1;exact h1
 have gc:Hid (∀ W:World,Below w.heap.size w W->Calls prog 178 #[.pointer (some ⟨sb,0,none⟩),.int .i64 lo,.int .i64 (levN d v:Nat)] W fun x w'=>x=.returned (.bool (decide (levN d v<lvE d.vars.length (levN d) (Zaa d) lo)))/\Below W.heap.size W w'):=fun W hb=>by
  have h1:=Za9 (h.below hlt hb) (hlt.mono hb.size) lo g2 (levN d v:Nat) g3;rw[Zd0 h hk hlo ga] at h1;exact h1
 have gd:Hid (∀ W:World,Below w.heap.size w W->Calls prog 178 #[.pointer (some ⟨sb,0,none⟩),.int .i64 hi,.int .i64 (levN d v:Nat)] W fun x w'=>x=.returned (.bool (decide (levN d v<lvE d.vars.length (levN d) (Zaa d) hi)))/\Below W.heap.size W w'):=fun W hb=>by
  have h1:=Za9 (h.below hlt hb) (hlt.mono hb.size) hi g4 (levN d v:Nat) g3;rw[Zd0 h hk hhi ga] at h1;exact h1
 have gg:=Hd (fun W (hb:Below w.heap.size w W)=>Zjw (h.below hlt hb) (hlt.mono hb.size) hk.live (fun i b hb=>⟨hk.dag.okLo i b hb,hk.dag.okHi i b hb⟩) v (eflip lo (eneg hi)) (eflip hi (eneg hi)) hv hid hk.clen);have gh:Hid (∀ W,Below w.heap.size w W->d.pool.many=d.pool.room->Zfc o w sb d V v lo hi (.returned (.tuple #[.int .i64 0,.int .i64 7])) W):=fun W hb hm=>.inr (.inr (.inl ⟨hm,rfl,hb⟩))
 have g5:Hid (∀ W W' id d' o',Below w.heap.size w W->Zaq o' W' sb d'->Zah o' W'->Zki d d' id v (eflip lo (eneg hi)) (eflip hi (eneg hi))->Chg Zan o o' W W'->Zfc o w sb d V v lo hi (.returned (.tuple #[.int .i64 (eflip (2*id) (eneg hi):Nat),.int .i64 0])) W'):=fun W W' id d' o' hb hs hl hr hc=>by
  obtain⟨h1,h2⟩:=Zwf hk hr hv (Zd6 hlo) (Zd6 hhi) (by rw[Zd5];exact hgl) (by rw[Zd5];exact hgh) (Zmn hi) (Zj6 he) hid;have g1:Zaa d' id=some ⟨v,eflip lo (eneg hi),eflip hi (eneg hi)⟩:=by rw[hr.nodes,Zbm]
  refine .inr (.inr (.inr ⟨by omega,by omega,_,d',_,o',rfl,hs,hl,h1,h2,Zd6 (Zgp g1),?_,?_,by rw[hr.many];omega,(Chg.of_below hb _ _).trans hc⟩))
  . rw[Zx8 h1 g1,h2.ef hlo,h2.ef hhi];rfl
  . rw[Zd5,h2.lev];unfold lvE;rw[show 2*id/2=id from by omega,g1];exact Nat.le_refl _
 have gr:=Hd (fun id W (hh:id<2305843009213693952)=>Ztc id (eneg hi) W hh);rw[decide_eq_true hgl] at gc;rw[decide_eq_true hgh] at gd;obtain⟨l,hl⟩:∃ l,l=levN d v:=⟨_,rfl⟩;rw[<- hl] at g7 gc gd;have gH:¬ ((l:Nat):Int)<0:=by omega
 have gF:((lo:Int) == hi)=false:=by simp;omega
 have g6:=Hd (fun W=>Zkd lo hi W g2 g4);have HH:=Hd h;have ge:=Hd hlt;have HV:=Hd hv;have HF:=Hd (fun W (hb:Below w.heap.size w W)=>Zrv o v (s.ts.getD v 0) (d.tab v) (eflip lo (eneg hi)) (eflip hi (eneg hi)) W ((h.below hlt hb).tab v (by rw[h.tlen];exact hv)) hid);obtain⟨lo2,g9⟩:∃ x,x=eflip lo (eneg hi):=⟨_,rfl⟩;obtain⟨gA,gb⟩:∃ x,x=eflip hi (eneg hi):=⟨_,rfl⟩;obtain⟨ng,gk⟩:∃ x,x=eneg hi:=⟨_,rfl⟩;rw[<- g9,<- gb] at g6 HF gg g5;rw[<- gk] at g6 gr g5;clear h hlt hk hv hlo hhi ga gs gv g2 g4 g3 hl hgl hgh he hid g9 gb gk
 go_enter func156,ntmps156
 go_wp2_with fail;refine(g7.out _ (Below.refl _ _)).mono ?_;rintro x w' ⟨rfl,rfl⟩;go_wp2_with fail;refine(gw.out _ (Below.refl _ _)).mono ?_;rintro x w1 ⟨rfl,gq⟩;have gf:=Hd gq;clear gq;go_wp2_with fail;refine(gx.out _ gf.out).mono ?_;rintro x w2 ⟨rfl,gp⟩;have HB2:=Hd (gf.out.trans (gp.mono gf.out.size));clear gp;go_wp2_with fail;refine(g7.out _ HB2.out).mono ?_;rintro x w' ⟨rfl,rfl⟩;go_wp2_with fail;refine(gc.out _ HB2.out).mono ?_;rintro x w3 ⟨rfl,go⟩;have g8:=Hd (HB2.out.trans (go.mono HB2.out.size));clear go;go_wp2_with fail;refine(g7.out _ g8.out).mono ?_;rintro x w' ⟨rfl,rfl⟩;go_wp2_with fail;refine(gd.out _ g8.out).mono ?_;rintro x w4 ⟨rfl,gn⟩;have g0:=Hd (g8.out.trans (gn.mono g8.out.size));clear gn;go_wp2_with fail;obtain⟨gt,ct,gi,cellv,gy,gG⟩:=(HH.out.below ge.out g0.out).tabAt HV.out;obtain⟨c0,c1,c2,c3,c4,f0⟩:=cells5 (HH.out.below ge.out g0.out).blk;rw[gi] at c2;have gE:(v:Int)<s.ts.length:=by omega
 have gz:=(HH.out.below ge.out g0.out).tab v gy;clear gi;refine(g6.out _).mono ?_;rintro x w' ⟨rfl,rfl⟩;have hf:=HF.out _ g0.out;clear gz;obtain⟨tv,gj⟩:∃ t,t=s.ts.getD v 0:=⟨_,rfl⟩;rw[<- gj] at cellv hf;have gC:=Hd hf;clear gj hf;go_wp2_with fail;refine gC.out.mono ?_;rintro x w' ⟨rfl,rfl⟩;go_wp2_with fail;refine(gg.out _ g0.out).mono ?_;rintro x w6 (⟨hm,rfl,gm⟩|⟨id,d',o',rfl,hs,gl,hr,hc⟩)
 ·have gD:=Hd (g0.out.trans (gm.mono g0.out.size));have HM:=Hd hm;clear hm gm c0 c1 c2 c3 c4 f0 cellv;go_wp2_with fail
  go_ret2
  exact gh.out _ gD.out HM.out
 ·have HS:=Hd hs;have gB:=Hd gl;have HR:=Hd hr;have HC:=Hd hc;have gu:id<2305843009213693952:=by
   obtain⟨s',hs'⟩:=hs;have:=hs'.tk_lt (i:=id) (b:=⟨v,lo2,gA⟩) (by rw[hr.nodes,Zbm]);omega
  clear hs gl hr hc c0 c1 c2 c3 c4 f0 cellv;go_wp2_with fail;refine(gr.out _ _ gu).mono ?_;rintro x w' ⟨rfl,rfl⟩;go_wp2_with fail
  go_ret2
  exact g5.out _ _ id d' o' g0.out HS.out gB.out HR.out HC.out
theorem Zsf {o:Own}{w:World}{sb:Nat}{d:Zac}{V:Nat->BF}(h:Zaq o w sb d)(hlt:Zah o w)(hk:Zaj d V)(v:Int)(lo hi:Nat)(hlo:okE (Zaa d) lo)(hhi:okE (Zaa d) hi) :
 Calls prog 156 #[.pointer (some ⟨sb,0,none⟩),.int .i64 v,.int .i64 lo,.int .i64 hi] w (Zfc o w sb d V v lo hi):=by
 obtain⟨s,h⟩:=h
 by_cases hv:0<=v/\v<d.vars.length
 ·obtain⟨n,rfl⟩:=Int.eq_ofNat_of_zero_le hv.1;have hn:n<d.vars.length:=by omega
  by_cases h1:levN d n<lvE d.vars.length (levN d) (Zaa d) lo
  ·by_cases h2:levN d n<lvE d.vars.length (levN d) (Zaa d) hi
   ·by_cases h3:lo=hi
    . exact Yfb h hlt hk n lo hi hn hlo hhi h1 h2 h3
    ·cases h4:d.tab n (eflip lo (eneg hi),eflip hi (eneg hi)) with
     | none=>exact Yex h hlt hk n lo hi hn hlo hhi h1 h2 h3 h4
     | some id=>exact Yam h hlt hk n lo hi hn hlo hhi h1 h2 h3 id h4
   . exact Yfc h hlt hk n lo hi hn hlo hhi (by omega) h1
  . exact Yfd h hlt hk n lo hi hn hlo hhi (by omega)
 . exact Yey h hk v lo hi hv
open Go.RowKit
theorem Zvh {o:Own}{w w':World}{v:Value}{zs:List Int}(h:OwnI w' w.heap.size v zs)(hb:Below w.heap.size w w')(hlt:Zah o w)(r:Role) :
 ∃ o',RowR o' w' r 3 1 v zs.length (Za3 zs)/\Chg (· = r) o o' w w'/\Zah o' w':=by
 obtain⟨hl,h2⟩:=h;rcases h2 with ⟨h1,h0⟩|⟨g,cap,cur,h1,h2,h3,h4,h5,h6,h7⟩
 . exact⟨o,⟨hl,.inl ⟨h1,h0⟩⟩,Chg.of_below hb _ _,hlt.mono hb.size⟩
 ·have hg:g<w'.heap.size:=(Array.getElem?_eq_some_iff.1 h3).1;refine⟨Zcf o g r,⟨hl,.inr ⟨g,cap,cur,h1,Za6 _ _ _,h3,h4,h5,by omega,h7⟩⟩,⟨hb.os,hb.tape,hb.output,hb.size,fun k hk _=>hb.block k hk,fun k q hq=>Zcx hlt h2 hq,fun k hk=>?_⟩,fun k q hq=>?_⟩
  ·by_cases e:k=g
   . subst e;exact⟨h2,r,Za6 _ _ _,rfl⟩
   . exact absurd (by simp[Zcf,e]) hk
  ·by_cases e:k=g
   . subst e;exact hg
   . simp only[Zcf,if_neg e] at hq;have:=hlt k q hq;have:=hb.size;omega
theorem Zpw (o:Own)(n:Nat)(hn:n<=64)(r:Role)(w:World)(hlt:Zah o w) :
 Calls prog 121 #[.int .i64 n] w fun e w'=>∃ v o',e=.returned v/\RowR o' w' r 3 1 v n ((List.range n).map nat64)/\Chg (· = r) o o' w w'/\Zah o' w' :=
 (Zn9 n w).mono fun e w' ⟨v,h1,h2,h3⟩=>by
  obtain⟨o',a,b,c⟩:=Zvh h2 h3 hlt r;have e1:Zpv n=iota n:=by unfold Zpv;congr 1;omega
  have e2:Za3 (iota n)=(List.range n).map nat64:=by simp[Za3,iota,nat64]
  rw[e1,Zfu,e2] at a;exact⟨v,o',h1,a,b,c⟩
def store0 (n room:Nat):Zac:=⟨List.range n,List.range n,pool0 room,fun _ _=>none,[],0⟩
structure NewS (o:Own)(w:World)(n room sb:Nat)(s:Zaw)(j:Nat)(o1:Own)(wx:World):Prop where
 own:o1 sb=some .store
 ownl:o1 s.lb=some .levels
 blk:wx.heap[sb]?=some (.cells #[.pointer (some ⟨s.lb,0,none⟩),.pointer (some ⟨s.pb,0,none⟩),s.vt,.slice none 0 0,.int .i64 0] 188 (0,0))
 lev:wx.heap[s.lb]?=some (.cells #[s.vv,s.vl] 185 (0,0))
 vars:RowR o1 wx .vars 3 1 s.vv n ((List.range n).map nat64)
 level:RowR o1 wx .level 3 1 s.vl n ((List.range n).map nat64)
 pool:Zap o1 wx s.pb (pool0 room)
 tabs:RowR o1 wx .tabs 189 1 s.vt j (s.ts.map ptrV)
 tl:s.ts.length=j
 tab:∀ v,v<j->Zc2 o1 wx v (s.ts.getD v 0) (fun _=>none)
 chg:Chg Zan o o1 w wx
 lt:Zah o1 wx
 ge:w.heap.size<=sb
theorem NewS.done {o o1:Own}{w wx:World}{n room sb:Nat}{s:Zaw}(h:NewS o w n room sb s n o1 wx):Zaq o1 wx sb (store0 n room) :=
 ⟨{ s with vc:=.slice none 0 0 },h.own,h.ownl,h.blk,h.lev,by simpa [store0] using h.vars,by simpa [store0] using h.level,h.pool,by rw[h.tl];exact h.tabs,fun v hv=>h.tab v (by rw[<- h.tl];exact hv),RowR.nil _ _ _ _ _,rfl,by simp[store0,h.tl]⟩
theorem NewS.grown {o o1 o2 o3:Own}{w wx wy wz:World}{n room sb:Nat}{s:Zaw}{j t g cap:Nat}(h:NewS o w n room sb s j o1 wx)(ht:Zc2 o2 wy j t (fun _=>none))(hc:Chg (fun r=>r=.tab j\/r=.tmap j) o1 o2 wx wy)(hl:Zah o2 wy)
 (hr:RowR o3 wz .tabs 189 1 (.slice (some ⟨g,0,none⟩) (j+1) cap) (j+1) (s.ts.map ptrV++[ptrV t])) (hc2:Chg (· = .tabs) o2 o3 wy wz) (hl2:Zah o3 wz) :
 NewS o w n room sb { s with vt:=.slice (some ⟨g,0,none⟩) (j+1) cap,ts:=s.ts++[t] } (j+1) o3 (wz.setCell ⟨sb,2,none⟩ (.slice (some ⟨g,0,none⟩) (j+1) cap)):=by
 have g0:Chg (fun r=>r=.tab j\/r=.tmap j\/r=.tabs) o1 o3 wx wz:=(hc.mono fun r e=>by rcases e with e|e;exact .inl e;exact .inr (.inl e)).trans (hc2.mono fun r e=>.inr (.inr e));have g1:=g0.ext _ _ h.own;have ne:∀ {a r},o3 a=some r->r ≠ .store->a≠sb:=fun ha hr e=>by subst e;rw[ha] at g1;cases g1;exact hr rfl
 have g3:=g0.ext _ _ h.ownl;have row:∀ {r e k v m xs},RowR o1 wx r e k v m xs->r ≠ .store->¬ (r=.tab j\/r=.tmap j\/r=.tabs)->RowR o3 (wz.setCell ⟨sb,2,none⟩ (.slice (some ⟨g,0,none⟩) (j+1) cap)) r e k v m xs:=fun hr h1 h2 =>
  (hr.chg g0 h.lt h2).setCell_other (p:=⟨sb,2,none⟩) (by rw[g1];intro e;cases e;exact h1 rfl) _
 have ctab:∀ v t f,Zc2 o3 wz v t f->Zc2 o3 (wz.setCell ⟨sb,2,none⟩ (.slice (some ⟨g,0,none⟩) (j+1) cap)) v t f:=fun v t f hT =>
  hT.keep (fun q r hq g2=>Zad (ne hq (by rintro rfl;rcases g2 with e|e<;>cases e)) _) (fun _ _ h=>h)
 refine⟨g1,g3,Zae ((g0.same h.lt h.own (by simp)).trans h.blk) _,(Zad (ne g3 (by simp)) _).trans ((g0.same h.lt h.ownl (by simp)).trans h.lev),row h.vars (by simp) (by simp),row h.level (by simp) (by simp),?_,?_,by simp[h.tl],fun v hv=>?_,?_,hl2.mono (by simp[World.setCell]),h.ge⟩
 . have hp:=h.pool.chg g0 h.lt (by simp) (by simp) (by simp) (by simp);exact hp.keep (fun q r hq g2=>Zad (ne hq (by rintro rfl;rcases g2 with e|e|e|e<;>cases e)) _) (fun _ _ h=>h)
 . have:=hr.setCell_other (p:=⟨sb,2,none⟩) (by rw[g1];simp) (.slice (some ⟨g,0,none⟩) (j+1) cap);simpa using this
 ·dsimp only;refine ctab _ _ _ ?_
  by_cases e:v=j
  ·subst e;have e2:(s.ts++[t]).getD v 0=t:=by simp[List.getD,h.tl]
   rw[e2];exact ht.chg hc2 hl (by simp) (by simp)
  ·have e2:(s.ts++[t]).getD v 0=s.ts.getD v 0:=by
    have:=h.tl;simp[List.getD,List.getElem?_append_left (show v<s.ts.length by omega)]
   rw[e2];exact(h.tab v (by omega)).chg g0 h.lt (by simp[e]) (by simp[e])
 . exact(h.chg.trans (g0.mono fun r e=>by rcases e with rfl|rfl|rfl<;>simp[Zan])).setCell (p:=⟨sb,2,none⟩) g1 (by simp[Zan]) _
theorem Zu0:(prog.info? 189).map (fun i=>(i.zero,i.size,i.bytes))=some (some (.pointer none),1,8):=by kernel_rfl
theorem Zx7 (o:Own)(n room:Nat)(w:World)(hlt:Zah o w)(hn:n<=64)(h1:1<=room)(h2:room<=1048576) :
 Calls prog 60 #[.int .i64 n,.int .i64 room] w fun x w'=>∃ sb o',x=.returned (.tuple #[.pointer (some ⟨sb,0,none⟩),.int .i64 0])/\Zaq o' w' sb (store0 n room)/\Chg Zan o o' w w'/\Zah o' w'/\w.heap.size<=sb:=by
 have gK:(n:Int)<=64:=by omega
 have gJ:(0:Int)<=n:=by omega
 have HP:=Hd (Yao o room w hlt h1 h2);clear hlt h1 h2
 go_enter func60,ntmps60
 go_wp2_with fail;refine HP.out.mono ?_;rintro x w1 ⟨pb,o1,rfl,gp,gu,gh,gI⟩;have gB:=Hd (Zpw o1 n hn .vars w1 gh);have gz:=Hd gh;have gy:=Hd gp;have gn:=Hd gu;clear gp gu gh;go_wp2_with fail;refine gB.out.mono ?_;rintro x w2 ⟨vv,o2,rfl,gb,gt,gg⟩;have gA:=Hd (Zpw o2 n hn .level w2 gg);have gl:=Hd gb;have gc:=Hd gt;have gm:=Hd gg;clear gb gt gg;go_wp2_with fail;refine gA.out.mono ?_;rintro x w3 ⟨vl,o3,rfl,g4,gs,gr⟩;obtain⟨av,cv,rfl,_⟩:=gl.out.slice;obtain⟨al,cl,rfl,_⟩:=g4.slice;have gx:=Hd g4;have g6:=Hd gs;have g3:=Hd gr;clear g4 gs gr;go_upto_region 7 with fail;obtain⟨wl,g1⟩:∃ wl,wl=w3.alloc (.cells #[.slice av n cv,.slice al n cl] 185):=⟨_,rfl⟩;obtain⟨ws,g0⟩:∃ ws,ws=wl.alloc (.cells #[.pointer (some ⟨w3.heap.size,0,none⟩),.pointer (some ⟨pb,0,none⟩),.slice none 0 0,.slice none 0 0,.int .i64 0] 188):=⟨_,rfl⟩;have gd:wl.heap.size=w3.heap.size+1:=by rw[g1];simp
 have gv:NewS o w n room (w3.heap.size+1) ⟨w3.heap.size,pb,.slice av n cv,.slice al n cl,.slice none 0 0,.slice none 0 0,[]⟩ 0 (Zcf (Zcf o3 w3.heap.size .levels) (w3.heap.size+1) .store) ws:=by
  have c1:=(Chg.refl Zan o3 w3).allocR (r:=.levels) g3.out (.cells #[.slice av n cv,.slice al n cl] 185) (by simp[Zan]);have l1:=g3.out.allocR (.cells #[.slice av n cv,.slice al n cl] 185) .levels;rw[<- g1] at c1 l1;have c2:=c1.allocR (r:=.store) l1 (.cells #[.pointer (some ⟨w3.heap.size,0,none⟩),.pointer (some ⟨pb,0,none⟩),.slice none 0 0,.slice none 0 0,.int .i64 0] 188) (by simp[Zan]);have l2:=l1.allocR (.cells #[.pointer (some ⟨w3.heap.size,0,none⟩),.pointer (some ⟨pb,0,none⟩),.slice none 0 0,.slice none 0 0,.int .i64 0] 188) .store;rw[<- g0,gd] at c2 l2;have hb:Below w3.heap.size w3 ws:=by rw[g0,g1];exact(Zaf w3 _).alloc (by simp) _
  have gb:=((gl.out.chg g6.out gm.out (by simp)).below g3.out hb).keep (o':=Zcf (Zcf o3 w3.heap.size .levels) (w3.heap.size+1) .store) (fun _ _=>rfl) (fun g hg=>c2.ext g _ hg);have g4:=(gx.out.below g3.out hb).keep (o':=Zcf (Zcf o3 w3.heap.size .levels) (w3.heap.size+1) .store) (fun _ _=>rfl) (fun g hg=>c2.ext g _ hg);have gD:=(gn.out.mono (R':=Zan) (fun r hr=>by rcases hr with rfl|rfl|rfl<;>simp[Zan,Ze7])).trans ((gc.out.mono (R':=Zan) (fun r hr=>by subst hr;simp[Zan])).trans ((g6.out.mono (R':=Zan) (fun r hr=>by subst hr;simp[Zan])).trans c2));have gC:=(gy.out.chg (gc.out) gz.out (by simp) (by simp) (by simp) (by simp)).chg g6.out gm.out (by simp) (by simp) (by simp) (by simp);have hp:=(gC.below hb g3.out).keep (o':=Zcf (Zcf o3 w3.heap.size .levels) (w3.heap.size+1) .store) (fun _ _ _ _=>rfl) (fun g r hg=>c2.ext g r hg);refine⟨Za6 _ _ _,Zcx l1 (by omega) (Za6 _ _ _),?_,?_,gb,g4,hp,RowR.nil _ _ _ _ _,rfl,fun v hv=>absurd hv (by omega),gD,l2,?_⟩
  . rw[g0,<- gd];exact heap_alloc_new wl _
  . rw[g0];exact(Go.heap_alloc_old wl _ (show w3.heap.size<wl.heap.size by omega)).trans (by rw[g1];exact heap_alloc_new w3 _)
  ·show w.heap.size<=w3.heap.size+1
   exact Nat.le_succ_of_le (Nat.le_trans gn.out.size (Nat.le_trans gc.out.size g6.out.size))
 rw[<- g1,<- g0];have gw:=Hd gv;clear gv g0 g1 gd gl gx gn gc g6 gz gm g3 gy gB gA HP;go_wp2_with fail
 go_loopw [31] (fun i wr=>∃ (j:Nat) (s:Zaw) (o1:Own),j<=n/\i=.int .i64 j/\NewS o w n room (w3.heap.size+1) s j o1 wr) (fun i _=>n-(intOf i).toNat)
 case atStart=>exact⟨0,_,_,by omega,rfl,gw.out⟩
 case round =>
  obtain⟨j,s,o1,hj,rfl,hS⟩:=hrel;clear gw
  by_cases hlt:j<n
  ·obtain⟨c0,c1,c2,c3,c4,f0⟩:=cells5 hS.blk;obtain⟨av,cv,g9,_⟩:=hS.tabs.slice;rw[g9] at c2;have gG:(j:Int)<n:=by omega
   have HJ:(j:Int)+1<=64:=by omega
   have HS:=Hd hS;have gE:Hid (RowR o1 wr .tabs 189 1 (.slice av j cv) j (s.ts.map ptrV)):=by show RowR _ _ _ _ _ _ _ _;rw[<- g9];exact hS.tabs
   have gF:=Hd (Yap o1 j wr.drew hS.lt);have gH:j<=64:=by omega
   have gj:=Hd g9;clear g9 hS;go_upto_region 9 with fail;refine Zam (fun W:World=>W.cell? ⟨w3.heap.size+1,2,none⟩=some (.slice av j cv)/\W.frozen? ⟨w3.heap.size+1,2,none⟩=false) true 10
    [(0,false),(1,false),(2,false),(3,false),(4,false),(5,true),(6,true),(7,true),(8,false),(9,false),(10,true)] (by kernel_rfl) (by kernel_rfl) ⟨c2,f0 2⟩ ?_
   simp only[planned,Zdx]
   iterate 5
    refine Zao rfl ?_;apply Exists.intro;refine⟨fun w' hw=>?_,?_⟩
    . obtain⟨h1,h2⟩:=hw;go_simp;rfl
    simp only[Zai]
   refine Zbq (R:=fun v w'=>∃ t o2,v=.pointer (some ⟨t,0,none⟩)/\Zc2 o2 w' j t (fun _=>none)/\Chg (fun r=>r=.tab j\/r=.tmap j) o1 o2 wr w'/\Zah o2 w') rfl (by go_simp) (gF.out.mono (fun e w' he=>?_)) ?_
   . obtain⟨t,o2,rfl,a1,a2,a3,a4⟩:=he;obtain⟨_,_,q2,_,_,q0⟩:=cells5 ((a2.same (by exact HS.out.lt) HS.out.own (by simp)).trans HS.out.blk);exact⟨_,rfl,⟨by rw[<- gj.out];exact q2,q0 2⟩,t,o2,rfl,a1,⟨a2.os,a2.tape,a2.output,a2.size,a2.block,a2.ext,a2.new⟩,a3⟩
   rintro v wy-⟨t,o2,rfl,ht,g2,g5⟩;simp only[Zai];have ga:=(g2.same HS.out.lt HS.out.own (by simp)).trans HS.out.blk;have gf:w3.heap.size+1<wy.heap.size:=(Array.getElem?_eq_some_iff.1 ga).1;have gN:=Hd g2;have gL:=Hd ht;have gM:=Hd g5;have gk:=gE.out.chg g2 HS.out.lt (by simp);obtain⟨wb,g8⟩:∃ wb,wb=wy.alloc (.cells #[.pointer (some ⟨t,0,none⟩)] 189):=⟨_,rfl⟩;obtain⟨_,_,p2,_,_,p0⟩:=cells5 (show wb.heap[w3.heap.size+1]?=_ from by rw[g8];exact(Go.heap_alloc_old _ _ gf).trans ga);refine Zih (v:=.slice (some ⟨wy.heap.size,0,none⟩) 1 1) (w':=wb) rfl (by rw[g8];go_simp) ⟨by rw[<- gj.out];exact p2,p0 2⟩ ?_;simp only[Zai];obtain⟨g,cap,wz,o3,g7,go,gi,gq⟩:=Zi9 186 189 186 1 8 (.pointer none) underlying186 Zu0 rfl (by decide) #[.pointer (some ⟨t,0,none⟩)] rfl (fun u hu=>by simp at hu;subst hu;rfl) gk g5 (by omega) (by decide);rw[<- g8] at g7;obtain⟨_,_,r2,_,_,r0⟩:=cells5 ((gi.same g5 (g2.ext _ _ HS.out.own) (by simp)).trans ga);refine Zih (v:=.slice (some ⟨g,0,none⟩) (j+1) cap) (w':=wz) rfl (Zkx rfl rfl rfl g7) ⟨by rw[<- gj.out];exact r2,r0 2⟩ ?_;simp only[Zai];have HG:=Hd (HS.out.grown ht g2 g5 go gi gq);clear ga gf g2 ht g5 gk g8 p2 p0 g7 go gi gq
   iterate 2
    refine Zao rfl ?_;apply Exists.intro;refine⟨fun w' hw=>?_,?_⟩
    . obtain⟨h1,h2⟩:=hw;go_simp;rfl
    simp only[Zai]
   refine Ze1 rfl (fun K hK=>?_);unfold Oper.wp;go_simp;refine hK _ _ (Zb2 ?_);go_wp2_with fail;go_roundw
   case rel=>exact⟨j+1,_,_,by omega,by simp,HG.out⟩
   case measure=>simp[intOf];omega
  ·obtain rfl:j=n:=by omega
   have HS:=Hd hS;clear hS;go_wp2_with fail
   go_ret2
   exact⟨_,_,rfl,HS.out.done,HS.out.chg,HS.out.lt,HS.out.ge⟩
open Go.RowKit
structure Ev where
 after:Int
 kind:Int
 level:Int
def evL (e:Ev):List Value:=[.int .i64 e.after,.int .i64 e.kind,.int .i64 e.level]
def evA (e:Ev):Value:=.agg #[.int .i64 e.after,.int .i64 e.kind,.int .i64 e.level]
structure Zbl (o:Own)(w:World)(v:Value)(ws:List Ev):Prop where
 ex:(v=.slice none 0 0/\ws=[])\/∃ g off cap cur,v=.slice (some ⟨g,off,none⟩) ws.length cap/\o g=some .waits/\w.heap[g]?=some (.cells cur 105 (0,0))/\ws.length<=cap/\cap<=maxLen /\
  off+cap*3<=cur.size/\(cur.toList.drop off).take (ws.length*3)=ws.flatMap evL
theorem Zbl.keep {o o':Own}{w w':World}{v:Value}{ws:List Ev}(h:Zbl o w v ws)(hk:∀ g,o g=some .waits->w'.heap[g]?=w.heap[g]?)(ho:∀ g,o g=some .waits->o' g=some .waits):Zbl o' w' v ws:=by
 refine⟨h.ex.imp id ?_⟩;rintro⟨g,off,cap,cur,h1,h2,h3,rest⟩;exact⟨g,off,cap,cur,h1,ho g h2,(hk g h2).trans h3,rest⟩
theorem Zbl.chg {R:Role->Prop}{o o':Own}{w w':World}{v:Value}{ws:List Ev}(h:Zbl o w v ws)(hc:Chg R o o' w w')(hlt:Zah o w)(hr:¬ R .waits):Zbl o' w' v ws :=
 h.keep (fun g hg=>hc.same hlt hg hr) (fun g hg=>hc.ext g _ hg)
theorem Zbl.nil (o:Own)(w:World):Zbl o w (.slice none 0 0) []:=⟨.inl ⟨rfl,rfl⟩⟩
theorem Zbl.slice {o:Own}{w:World}{v:Value}{ws:List Ev}(h:Zbl o w v ws):∃ a cap,v=.slice a ws.length cap/\(a=none->cap=0):=by
 rcases h.ex with ⟨h1,h0⟩|⟨g,off,cap,cur,h1,_⟩
 . exact⟨none,0,by rw[h1,h0];rfl,fun _=>rfl⟩
 . exact⟨_,cap,h1,by simp⟩
theorem Zcp (ws:List Ev):(ws.flatMap evL).length=ws.length*3:=Za7 evL 3 (fun _=>rfl) ws
theorem Zbl.first {o:Own}{w:World}{v:Value}{ev:Ev}{ws:List Ev}(h:Zbl o w v (ev::ws)):∃ g off cap,v=.slice (some ⟨g,off,none⟩) (ws.length+1) cap/\o g=some .waits/\ws.length+1<=cap/\cap<=maxLen /\
 w.cell? ⟨g,off,none⟩=some (.int .i64 ev.after)/\w.cell? ⟨g,off+1,none⟩=some (.int .i64 ev.kind)/\w.cell? ⟨g,off+2,none⟩=some (.int .i64 ev.level)/\Zbl o w (.slice (if cap=1 then some ⟨g,off,none⟩ else some ⟨g,off+3,none⟩) ws.length (cap-1)) ws:=by
 rcases h.ex with ⟨h1,h0⟩|⟨g,off,cap,cur,h1,h2,h3,h4,h5,h6,h7⟩
 . cases h0
 ·simp only[List.length_cons] at h1 h4 h7;have hc:∀ j u,(evL ev++ws.flatMap evL)[j]?=some u->w.cell? ⟨g,off+j,none⟩=some u:=by
   intro j u hj;have hl:=(List.getElem?_eq_some_iff.1 hj).1;have g0:j<(ws.length+1)*3:=by
    have e1:(evL ev++ws.flatMap evL).length=3+ws.length*3:=by rw[List.length_append,Zcp];rfl
    omega
   rw[cell_of_row w g (off+j) cur _ (0,0) h3];have e2:(evL ev++ws.flatMap evL)[j]?=((cur.toList.drop off).take ((ws.length+1)*3))[j]?:=by rw[h7];rfl
   rw[e2,List.getElem?_take,if_pos g0,List.getElem?_drop] at hj;simpa using hj
  refine⟨g,off,cap,h1,h2,h4,h5,hc 0 _ rfl,hc 1 _ rfl,hc 2 _ rfl,⟨.inr ?_⟩⟩
  by_cases e1:cap=1
  . have e2:ws=[]:=List.eq_nil_of_length_eq_zero (by omega);subst e2;exact⟨g,off,cap-1,cur,by rw[if_pos e1],h2,h3,by simp,by omega,by omega,by simp⟩
  ·refine⟨g,off+3,cap-1,cur,by rw[if_neg e1],h2,h3,by omega,by omega,by omega,?_⟩;have e3:(cur.toList.drop (off+3)).take (ws.length*3)=((cur.toList.drop off).take ((ws.length+1)*3)).drop 3:=by
    rw[List.drop_take,List.drop_drop];congr 1;omega
   rw[e3,h7];rfl
structure ManD where
 d:Zac
 hs:List (Int×Nat)
 next:Int
 waits:List Ev
 calls:Int
structure ManW where
 sb:Nat
 me:Nat
 hb:Nat
 vw:Value
def encH (hs:List (Int×Nat)):List (Int×Value):=hs.map fun p=>(p.1,.int .i64 (p.2:Nat))
structure Zbs (F:Phi)(o:Own)(w:World)(mb:Nat)(m:ManD)(s:ManW):Prop where
 own:o mb=some .man
 blk:w.heap[mb]?=some (.cells #[.pointer (some ⟨s.sb,0,none⟩),.pointer (some ⟨s.me,0,none⟩),.map (some s.hb),.int .i64 m.next,s.vw,.int .i64 m.calls] 118 (0,0))
 store:Zaq o w s.sb m.d
 memo:Zce o w s.me F
 ownh:o s.hb=some .handles
 map:Za5 w s.hb (Value.int .i64) (encH m.hs)
 waits:Zbl o w s.vw m.waits
def Zed (F:Phi)(o:Own)(w:World)(mb:Nat)(m:ManD):Prop:=∃ s,Zbs F o w mb m s
theorem cells6 {w:World}{g:Nat}{a b c d e f:Value}{T:TypeId}(h:w.heap[g]?=some (.cells #[a,b,c,d,e,f] T (0,0))):w.cell? ⟨g,0,none⟩=some a/\w.cell? ⟨g,1,none⟩=some b/\w.cell? ⟨g,2,none⟩=some c/\w.cell? ⟨g,3,none⟩=some d/\w.cell? ⟨g,4,none⟩=some e/\w.cell? ⟨g,5,none⟩=some f /\
 (∀ k,w.frozen? ⟨g,k,none⟩=false) :=
 ⟨by rw[cell_of_row w g 0 _ _ _ h];rfl,by rw[cell_of_row w g 1 _ _ _ h];rfl,by rw[cell_of_row w g 2 _ _ _ h];rfl,by rw[cell_of_row w g 3 _ _ _ h];rfl,by rw[cell_of_row w g 4 _ _ _ h];rfl,by rw[cell_of_row w g 5 _ _ _ h];rfl,fun k=>by simp[World.frozen?,h]⟩
section
variable {F:Phi}{o o':Own}{w w':World}{mb:Nat}{m:ManD}{s:ManW}
theorem Za5.keepB {w w':World}{b:Nat}{enc:Int->Value}{l:List (Int×Value)}(h:Za5 w b enc l)(hk:w'.heap[b]?=w.heap[b]?):Za5 w' b enc l:=by
 obtain⟨es,c,hb,rest⟩:=h.ex;exact⟨⟨es,c,hk.trans hb,rest⟩,h.nodup⟩
theorem Zaq.keepR {sb:Nat}{d:Zac}(h:Zaq o w sb d)(hk:∀ g r,o g=some r->Zan r->w'.heap[g]?=w.heap[g]?)(ho:∀ g r,o g=some r->o' g=some r):Zaq o' w' sb d:=by
 obtain⟨s,h⟩:=h;have row:∀ {r e k v n xs},Zan r->RowR o w r e k v n xs->RowR o' w' r e k v n xs:=fun hr h=>h.keep (fun g hg=>hk g _ hg hr) (fun g hg=>ho g _ hg)
 refine⟨s,ho _ _ h.own,ho _ _ h.ownl,(hk _ _ h.own (by simp[Zan])).trans h.blk,(hk _ _ h.ownl (by simp[Zan])).trans h.lev,row (by simp[Zan]) h.vars,row (by simp[Zan]) h.level,
  h.pool.keep (fun g r hg hr=>hk g r hg (by rcases hr with rfl|rfl|rfl|rfl<;>simp[Zan,Ze7])) ho,row (by simp[Zan]) h.tabs,
  fun v hv=>(h.tab v hv).keep (fun g r hg hr=>hk g r hg (by rcases hr with rfl|rfl<;>simp[Zan])) ho,row (by simp[Zan]) h.counts,h.len,h.tlen⟩
theorem Zce.mono {G:Phi}{me:Nat}(h:Zce o w me F)(hF:∀ op a b c r,F op a b c r->G op a b c r):Zce o w me G:=by
 obtain⟨ve,a,f,h1,h2⟩:=h.ex;refine⟨h.own,ve,a,f,h1,h2.imp id ?_⟩;rintro⟨ge,cap,l,e1,e2,e3,e4⟩;exact⟨ge,cap,l,e1,e2,e3,fun i hi=>hF _ _ _ _ _ (e4 i hi)⟩
theorem Zbs.keep (h:Zbs F o w mb m s)(hk:∀ g r,o g=some r->w'.heap[g]?=w.heap[g]?)(ho:∀ g r,o g=some r->o' g=some r):Zbs F o' w' mb m s :=
 ⟨ho _ _ h.own,(hk _ _ h.own).trans h.blk,h.store.keepR (fun g r hg _=>hk g r hg) ho,h.memo.keep (fun g r hg _=>hk g r hg) ho,ho _ _ h.ownh,h.map.keepB (hk _ _ h.ownh),h.waits.keep (fun g hg=>hk g _ hg) (fun g hg=>ho g _ hg)⟩
theorem Zbs.below (h:Zbs F o w mb m s)(hlt:Zah o w)(hb:Below w.heap.size w w'):Zbs F o w' mb m s:=h.keep (fun g r hg=>hb.block g (hlt g r hg)) (fun _ _ h=>h)
theorem Zbs.setStore {d':Zac}(h:Zbs F o w mb m s)(hlt:Zah o w)(hs:Zaq o' w' s.sb d')(hc:Chg Zan o o' w w'):Zbs F o' w' mb { m with d:=d' } s :=
 ⟨hc.ext _ _ h.own,(hc.same hlt h.own (by simp[Zan,Ze7])).trans h.blk,hs,h.memo.chg hc hlt (by simp[Zan,Ze7]) (by simp[Zan,Ze7]),hc.ext _ _ h.ownh,h.map.keepB (hc.same hlt h.ownh (by simp[Zan,Ze7])),h.waits.chg hc hlt (by simp[Zan,Ze7])⟩
theorem Zbs.setMemo {G:Phi}(h:Zbs F o w mb m s)(hlt:Zah o w)(hm:Zce o' w' s.me G)(hc:Chg (fun r=>r=.memo\/r=.entries) o o' w w'):Zbs G o' w' mb m s :=
 ⟨hc.ext _ _ h.own,(hc.same hlt h.own (by simp)).trans h.blk,h.store.keepR (fun g r hg hr=>hc.same hlt hg (by rintro(rfl|rfl)<;>simp[Zan,Ze7] at hr)) hc.ext,hm,hc.ext _ _ h.ownh,h.map.keepB (hc.same hlt h.ownh (by simp)),h.waits.chg hc hlt (by simp)⟩
theorem Zbs.mono {G:Phi}(h:Zbs F o w mb m s)(hF:∀ op a b c r,F op a b c r->G op a b c r):Zbs G o w mb m s:=⟨h.own,h.blk,h.store,h.memo.mono hF,h.ownh,h.map,h.waits⟩
theorem Zbs.field (h:Zbs F o w mb m s){k:Nat}{u:Value}{m':ManD}{s':ManW}(hd:m'.d=m.d)(hh:m'.hs=m.hs)(h1:s'.sb=s.sb)(h2:s'.me=s.me)(h3:s'.hb=s.hb)(hw:Zbl o w s'.vw m'.waits)
 (hb:(#[.pointer (some ⟨s.sb,0,none⟩),.pointer (some ⟨s.me,0,none⟩),.map (some s.hb),.int .i64 m.next,s.vw,.int .i64 m.calls]:Array Value).setIfInBounds k u=#[.pointer (some ⟨s.sb,0,none⟩),.pointer (some ⟨s.me,0,none⟩),.map (some s.hb),.int .i64 m'.next,s'.vw,.int .i64 m'.calls]) :
 Zbs F o (w.setCell ⟨mb,k,none⟩ u) mb m' s':=by
 have ne:∀ {g r},o g=some r->r ≠ .man->g≠mb:=fun hg hr e=>by subst e;have:=h.own;rw[hg] at this;cases this;exact hr rfl
 refine⟨h.own,?_,?_,?_,by rw[h3];exact h.ownh,?_,hw.keep (fun g hg=>Zad (ne hg (by simp)) _) (fun _ h=>h)⟩
 . rw[h1,h2,h3,<- hb];exact Zae h.blk _
 . rw[h1,hd];exact h.store.keepR (fun g r hg hr=>Zad (ne hg (by rintro rfl;simp[Zan,Ze7] at hr)) _) (fun _ _ h=>h)
 . rw[h2];exact h.memo.keep (fun g r hg hr=>Zad (ne hg (by rintro rfl;rcases hr with e|e<;>cases e)) _) (fun _ _ h=>h)
 . rw[h3,hh];exact h.map.keepB (Zad (ne h.ownh (by simp)) _)
end
abbrev Law:=Zac->(Nat->BF)->Phi
def minL (d:Zac)(a b c:Nat):Nat:=min (lvE d.vars.length (levN d) (Zaa d) a) (min (lvE d.vars.length (levN d) (Zaa d) b) (lvE d.vars.length (levN d) (Zaa d) c))
structure IteP (d:Zac)(V:Nat->BF)(a b c r:Nat):Prop where
 okA:okE (Zaa d) a
 okB:okE (Zaa d) b
 okC:okE (Zaa d) c
 okR:okE (Zaa d) r
 val:∀ ρ,ef V r ρ=if ef V a ρ then ef V b ρ else ef V c ρ
 lev:minL d a b c<=lvE d.vars.length (levN d) (Zaa d) r
structure Zdu (K:Law):Prop where
 ite:∀ d V a b c r,K d V 1 a b c r↔IteP d V a b c r
 ext:∀ d V d' V' op a b c r,Zaj d V->Zaj d' V'->Ext d V d' V'->K d V op a b c r->K d' V' op a b c r
 same:∀ d d' V op a b c r,d'.vars=d.vars->d'.level=d.level->Zaa d'=Zaa d->K d V op a b c r->K d' V op a b c r
def Zbt (hs:List (Int×Nat))(i:Nat):Nat:=(hs.filter fun p=>decide (1<p.1)&&p.2/2 == i).length
structure Zbv (m:ManD):Prop where
 nodup:(m.hs.map Prod.fst).Nodup
 zero:(0,1)∈m.hs
 one:(1,0)∈m.hs
 lt:∀ p∈m.hs,0<=p.1/\p.1<m.next
 next:2<=m.next
 ok:∀ p∈m.hs,okE (Zaa m.d) p.2
 len:(m.hs.length:Int)<=m.next
 refs:∀ i b,Zaa m.d i=some b->Zat m.d i=Zbt m.hs i
structure Zv6 (m:ManD)(V:Nat->BF):Prop where
 store:Zaj m.d V
 handles:Zbv m
structure Step (K:Law)(o:Own)(w:World)(mb:Nat)(m:ManD)(V:Nat->BF)(o':Own)(w':World)(m':ManD)(V':Nat->BF):Prop where
 is:Zed (K m'.d V') o' w' mb m'
 lt:Zah o' w'
 chg:Chg (fun _=>True) o o' w w'
 ok:Zaj m'.d V'
 ext:Ext m.d V m'.d V'
 hs:m'.hs=m.hs
 next:m'.next=m.next
theorem Step.trans {K:Law}{o o' o'':Own}{w w' w'':World}{mb:Nat}{m m' m'':ManD}{V V' V'':Nat->BF}(h:Step K o w mb m V o' w' m' V')(h':Step K o' w' mb m' V' o'' w'' m'' V''):Step K o w mb m V o'' w'' m'' V'' :=
 ⟨h'.is,h'.lt,h.chg.trans h'.chg,h'.ok,h.ext.trans h'.ext,h'.hs.trans h.hs,h'.next.trans h.next⟩
structure Zfn (o:Own)(w:World)(xb mb:Nat):Prop where
 cell:w.cell? ⟨xb,0,none⟩=some (.pointer (some ⟨mb,0,none⟩))
 own:o xb=none
theorem Zfn.chg {R:Role->Prop}{o o':Own}{w w':World}{xb mb:Nat}(h:Zfn o w xb mb)(hc:Chg R o o' w w'):Zfn o' w' xb mb:=⟨hc.cell h.cell h.own,hc.alien' (World.block_lt_of_cell? w _ h.cell) h.own⟩
end Go.Proofs.YtgmbklaolcmljaaGreat
