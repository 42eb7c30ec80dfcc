/- Several texts in one file: contracts of the program's functions and what follows from them. -/
import Derived.Test.YtgmbklaolcmljaaGreatS1
import Derived.Laws.IdiomCopy
import Derived.Deep.Cut
import Derived.Deep.CutRange
import Derived.Deep.DeepCutAuto
import Derived.Deep.CutBlock
set_option linter.unusedSimpArgs false
set_option linter.unusedVariables false
set_option linter.unusedSectionVars false
set_option linter.unnecessarySimpa false
set_option maxRecDepth 100000
set_option maxHeartbeats 8000000
namespace Go.Proofs.YtgmbklaolcmljaaGreat
open Go.Proofs.Tryz
open Go.RowKit
variable {L:Array Bool}{N:Nat->Option BN}{P:Program}{Q:Exit->Act->Wd->Prop}{R:Role->Prop}{S:Wd->Prop}{T t:TypeId}{V V':Nat->BF}{W w w' w0 wx:Wd}{a:Act}{args:Array Value}{asked found:Int}{b cap e f g ge h hi i id j k k' lo mb n pb room sb x xb:Nat}{l:List Oper}{last:Bool}{o' o1 o2:Own}{ops:Array Oper}{r:List (Option Oper×Bool)}{rk:Nat->Nat}{u v:Value}{zs:List Int}
section
theorem BR {o:Oper}{f:FuncId}{R:Value->Wd->Prop}(hg:o.guard=none)
 (he:(execOp a.eval o).run P w=.ok (.enter f args) w) (hc:Calls P f args w fun e w'=>∃ v,e=.returned v/\S w'/\R v w')
 (h:∀ v w',S w'->R v w'->AE P ops Q S last r (a.put o.dst v) w'):AE P ops Q S last ((some o,true)::r) a w:=by
 have hw:Region.wanted o (yielded ops a.tmps)=true:=by simp[Region.wanted,hg]
 unfold AE;simp only[hw,XP,Oper.wp,he,Oper.upon];exact hc.mono fun e w' ⟨v,h1,h2,h3⟩=>by subst h1;exact⟨.inr h2,h v w' h2 h3⟩
end
theorem Pp (o:Own)(w:Wd)(hlt:Ab o w):RowR (AB o w.heap.size .entries) (w.alloc (.cells (madeCells #[.int .i64 0,.int .i64 0,.int .i64 0,.int .i64 0,.int .i64 0,.bool false] (4096*6)) 264)) .entries 264 6 (.slice (some ⟨w.heap.size,0,none⟩) 4096 4096) 4096 ((List.replicate 4096 ent0).flatMap entV):=by
 refine⟨by rw[BP entV 6 C9,XR],.inr ⟨w.heap.size,4096,_,rfl,Br _ _ _,WN w _,WM _,by decide,by rw[size_madeCells];exact WM _,?_⟩⟩;rw[Kx,Xn];rw[BP entV 6 C9,XR];exact WM _
theorem K0 (F:Phi)(n:Nat):EV F (List.replicate n ent0):=by
 intro i hi;have:Bd (List.replicate n ent0) i=ent0:=by
  simp only[Bd,List.getD,Ze];split<;>rfl
 rw[this] at hi;cases hi
theorem K1 (w:Wd):(Instr.makeSlice 191 (.int .i64 4096) (.int .i64 4096)).run prog w=.ok (.slice (some ⟨w.heap.size,0,none⟩) 4096 4096) (w.alloc (.cells (madeCells #[.int .i64 0,.int .i64 0,.int .i64 0,.int .i64 0,.int .i64 0,.bool false] (4096*6)) 264)):=by
 have s:=Kw;cases hi:prog.info? 264 with
 | none=>rw[hi] at s;cases s
 | some i =>
   rw[hi] at s;simp only[XM,X0,Yc] at s;obtain⟨hz,hs,hb⟩:=s;have:=run_make (P:=prog) w 191 264 i _ underlying191 hi hz .i64 .i64 4096 4096 (by decide) (by decide) (by rw[hb];decide) (by decide);rw[hs] at this;exact this
structure CA (o:Own)(w:Wd)(mb ge cap:Nat)(l:List EntD)(asked found:Int)(F:Phi):Prop where
 own:o mb=some .memo
 blk:w.heap[mb]?=some (.cells #[.int .i64 4096,.slice (some ⟨ge,0,none⟩) 4096 cap,.int .i64 asked,.int .i64 found] 193 (0,0))
 len:l.length=4096
 row:RowR o w .entries 264 6 (.slice (some ⟨ge,0,none⟩) 4096 cap) 4096 (l.flatMap entV)
 ok:EV F l
theorem CA.is {o:Own}{l:List EntD}{F:Phi}(h:CA o w mb ge cap l asked found F):AX o w mb F:=⟨h.own,_,_,_,h.blk,.inr ⟨ge,cap,l,rfl,h.len,h.row,h.ok⟩⟩
theorem Pq {o:Own}{F:Phi}(hown:o mb=some .memo)(hlt:Ab o w)(hmb:w.heap[mb]?=some (.cells #[.int .i64 4096,.slice none 0 0,.int .i64 asked,.int .i64 found] 193 (0,0)))(W:Wd)
 (hW:W=(w.setCell ⟨mb,1,none⟩ (.slice (some ⟨w.heap.size,0,none⟩) 4096 4096)).alloc (.cells (madeCells #[.int .i64 0,.int .i64 0,.int .i64 0,.int .i64 0,.int .i64 0,.bool false] 24576) 264)) :
 ∃ o',CA o' W mb w.heap.size 4096 (List.replicate 4096 ent0) asked found F/\Chg (fun r=>r=.memo\/r=.entries) o o' w W/\Ab o' W:=by
 have g3:mb<w.heap.size:=hlt _ _ hown;obtain⟨w1,h1⟩:=Ex (w.setCell ⟨mb,1,none⟩ (.slice (some ⟨w.heap.size,0,none⟩) 4096 4096));have hz:w1.heap.size=w.heap.size:=by rw[h1];simp[World.setCell]
 have g1:Chg (fun r=>r=.memo\/r=.entries) o o w w1:=by rw[h1];exact Chg.setCell (R:=fun r=>r=.memo\/r=.entries) (p:=⟨mb,1,none⟩) (Chg.refl _ o w) hown (.inl rfl) _
 have g0:Ab o w1:=hlt.mono g1.size;have g2:w1.heap[mb]?=some (.cells #[.int .i64 4096,.slice (some ⟨w.heap.size,0,none⟩) 4096 4096,.int .i64 asked,.int .i64 found] 193 (0,0)):=by rw[h1];exact Az hmb _
 have hr:=Pp o w1 g0;rw[<- h1] at hW;rw[hz] at hr;subst hW;refine⟨AB o w.heap.size .entries,⟨CK hlt (WM _) hown,?_,XR,hr,K0 F _⟩,?_,?_⟩
 . exact(WT w1 _ (by omega)).trans g2
 . rw[<- hz];exact g1.allocR g0 _ (.inr rfl)
 . rw[<- hz];exact g0.allocR _ _
theorem CA.below {o:Own}{w w':Wd}{mb ge cap:Nat}{l:List EntD}{asked found:Int}{F:Phi}(h:CA o w mb ge cap l asked found F)(hlt:Ab o w)(hb:Bw w w'):CA o w' mb ge cap l asked found F :=
 ⟨h.own,(hb.block mb (hlt _ _ h.own)).trans h.blk,h.len,h.row.below hlt hb,h.ok⟩
theorem K2 {o:Own}{l:List EntD}{F:Phi}(h:CA o w mb ge cap l asked found F)(op:Int)(a b c:Nat) :
 Calls prog 183 #[Pt mb,.agg #[.int .i64 op,.int .i64 a,.int .i64 b,.int .i64 c]] w.drew fun x w'=>∃ i,i<4096/\x=.returned (.pointer (some ⟨ge,i*6,none⟩))/\Below w.drew.heap.size w.drew w' :=
 Kq mb ge cap op a b c w.drew (cells4 (w:=w.drew) h.blk).2.1
theorem CA.stored {o:Own}{l:List EntD}{F:Phi}(h:CA o w mb ge cap l asked found F)(hk:k<4096){E:EntD}(hE:F E.op E.a E.b E.c E.r):CA o (set6 w ge k E) mb ge cap (l.set k E) asked found F:=by
 have hg:=h.row.owner;have g0:mb≠ge:=fun e=>by subst e;have:=h.own;rw[hg] at this;cases this
 refine⟨h.own,(Pn g0).trans h.blk,by rw[Xi];exact h.len,?_,Po h.ok k hE⟩;have hr:=h.row;rw[show 4096=l.length from h.len.symm] at hr;have:=Pm (m:=l.length) hr (by rw[h.len];exact hk) E;rw[h.len] at this;exact this
theorem K3 (w:Wd)(a:Option Addr)(n c:Nat):(binOp .eql 191 (.slice a n c) (.slice none 0 0)).run prog w=.ok (.bool a.isNone) w:=by
 have hd:Op.maxDepth=9999+1:=rfl;have h:(Op.equal 191 (.slice a n c) (.slice none 0 0)).run prog w=.ok a.isNone w:=by
  unfold Op.equal;rw[hd];unfold Op.equalIn;simp only[XH,Xt underlying191,Xs];cases a<;>simp
 simp only[binOp];simp[h]
abbrev Yr:=@bodyPost_end
abbrev Ye:=@results_none
theorem K4 (o:Own)(mb:Nat)(F:Phi)(op:Int)(a b c r:Nat)(w:Wd)(h:AX o w mb F)(hlt:Ab o w)(hF:F op a b c r) :
 Calls prog 159 #[Pt mb,.int .i64 op,.int .i64 a,.int .i64 b,.int .i64 c,.int .i64 r] w fun x w'=>x=.returned (.tuple #[])/\∃ o',AX o' w' mb F/\Chg (fun r=>r=.memo\/r=.entries) o o' w w'/\Ab o' w':=by
 obtain⟨ve,asked,found,gt,hv⟩:=h.ex;obtain⟨c0,c1,c2,c3,f0⟩:=cells4 gt;have lmb:mb<w.heap.size:=Ag c0;have gA:=Hd hlt;have gq:=Hd gt;have gb:=Hd h.own;have HV:=Hd hv;have HF:=Hd hF;have gz:=Hd K1;clear h hlt gt hv hF;rcases HV.o with rfl|⟨ge,cap,l,rfl,hl,gr,gv⟩
 ·have gB:=K1 w;have gp:(binOp .eql 191 (.slice none 0 0) (.slice none 0 0)).run prog w=.ok (.bool true) w:=K3 w none 0 0;have HM:=Hd (Pq (F:=F) gb.o gA.o gq.o)
  delta Pt;go_enter func159,ntmps159
  go_upto_region 3 with fail;obtain⟨W1,g5⟩:=Ex ((w.setCell ⟨mb,1,none⟩ (.slice (some ⟨w.heap.size,0,none⟩) 4096 4096)).alloc (.cells (madeCells #[.int .i64 0,.int .i64 0,.int .i64 0,.int .i64 0,.int .i64 0,.bool false] 24576) 264));rw[<- g5];obtain⟨o1,gw,gy,gx⟩:=HM.o W1 g5;have g6:=Hd gw;have ga:=Hd gy;have g7:=Hd gx;clear gw gy gx g5 HM gB gp c0 c1 c2 c3 f0 lmb HV gq gb gz;obtain⟨d0,d1,d2,d3,g0⟩:=cells4 g6.o.blk;have lmb1:mb<W1.heap.size:=Ag d0;go_upto_region 4 with fail;obtain⟨bx,g9⟩:=Ex W1.heap.size;obtain⟨W2,g4⟩:=Ex (W1.alloc (.cells #[.int .i64 op,.int .i64 a,.int .i64 b,.int .i64 c] 260));have g3:Bw W1 W2:=by rw[g4];exact Af _ _
  have g8:W2.heap[bx]?=some (.cells #[.int .i64 op,.int .i64 a,.int .i64 b,.int .i64 c] 260 (0,0)):=by rw[g4,g9];exact WN W1 _
  rw[<- g4,<- g9];have gd:=g6.o.below g7.o g3;have gk:=ga.o.trans (Chg.of_below g3 (fun r=>r=.memo\/r=.entries) _);have gh:=g7.o.mono g3.size;have gm:=Hd gd;have gu:=Hd gk;have gn:=Hd gh;have go:=Hd g8;clear gd gk gh g3 g4 g9 g6 ga g7 d0 d1 d2 d3 g0 lmb1;obtain⟨k0,k1,k2,k3,fk⟩:=cells4 g8;clear g8;refine AR (fun W:Wd=>W.cell? ⟨bx,0,none⟩=some (.int .i64 op)/\W.cell? ⟨bx,1,none⟩=some (.int .i64 a)/\W.cell? ⟨bx,2,none⟩=some (.int .i64 b)/\W.cell? ⟨bx,3,none⟩=some (.int .i64 c)) true 7
   [(0,false),(1,false),(3,false),(4,false),(5,false),(2,true),(6,false),(7,true)] (by kernel_rfl) (by kernel_rfl) ⟨k0,k1,k2,k3⟩ ?_
  simp only[planned,AQ]
  iterate 5
   refine A3 rfl ?_;apply Exists.intro;refine⟨fun w' hw=>?_,?_⟩
   . obtain⟨q0,q1,q2,q3⟩:=hw;go_simp;rfl
   simp only[Ac]
  refine BR (R:=fun v w'=>∃ i,i<4096/\v=.pointer (some ⟨w.heap.size,i*6,none⟩)/\Below W2.drew.heap.size W2.drew w') rfl (by go_simp) ((K2 gm.o op a b c).mono (fun e w' he=>?_)) ?_
  . obtain⟨i,hi,rfl,hb⟩:=he;obtain⟨j0,j1,j2,j3,_⟩:=cells4 ((hb.block bx (WL.1 go.o).1).trans go.o);exact⟨_,rfl,⟨j0,j1,j2,j3⟩,i,hi,rfl,hb⟩
  rintro v w3-⟨i,hi,rfl,g2⟩;simp only[Ac];have g2:Bw W2 w3:=(Ap W2 1).trans g2;have g1:=gm.o.below gn.o g2;have gj:=gu.o.trans (Chg.of_below g2 (fun r=>r=.memo\/r=.entries) _);have gg:=gn.o.mono g2.size;obtain⟨n0,n1,n2,n3,n4,n5⟩:=Ir g1.row g1.len hi
  iterate 1
   refine A3 rfl ?_;apply Exists.intro;refine⟨fun w' hw=>?_,?_⟩
   . obtain⟨q0,q1,q2,q3⟩:=hw;go_simp;rfl
   simp only[Ac]
  refine EU rfl rfl (Ky (fun j=>by have:=g1.row.frozen j;exact this) n0 n1 n2 n3 n4 n5 ⟨op,a,b,c,r,true⟩) ?_;simp only[Ac];have gc:=(g1.stored hi (E:=⟨op,a,b,c,r,true⟩) HF.o).is;have gi:=Kz (k:=i) (E:=⟨op,a,b,c,r,true⟩) gj g1.row.owner (.inr rfl);have gf:Ab o1 (set6 w3 w.heap.size i ⟨op,a,b,c,r,true⟩):=gg.mono (by simp[set6,World.setCell]);obtain⟨WF,gl⟩:=Ex (set6 w3 w.heap.size i ⟨op,a,b,c,r,true⟩);rw[<- gl] at gc gi gf ⊢;clear n0 n1 n2 n3 n4 n5 g1 gj gg g2 k0 k1 k2 k3 fk gl;go_wp2_with fail;refine Yr (Ye rfl _ _ _) rfl ?_;exact⟨rfl,o1,gc,gi,gf⟩
 ·have g6:Hq (CA o w mb ge cap l asked found F):=(Hd ⟨gb.o,gq.o,hl,gr,gv⟩);have gp:(binOp .eql 191 (.slice (some ⟨ge,0,none⟩) 4096 cap) (.slice none 0 0)).run prog w=.ok (.bool false) w:=K3 w _ _ _;clear hl gr gv
  delta Pt;go_enter func159,ntmps159
  go_upto_region 3 with fail;obtain⟨W1,g5⟩:=Ex w;have ga:Hq (Chg (fun r=>r=.memo\/r=.entries) o o w W1):=Hd (g5 ▸ Chg.refl _ _ _);have g7:Hq (Ab o W1):=Hd (g5 ▸ gA.o);rw[<- g5] at g6;rw[<- g5];obtain⟨o1,gs⟩:=Ex o;rw[<- gs] at g6 g7;have ga:Hq (Chg (fun r=>r=.memo\/r=.entries) o o1 w W1):=by rw[gs];exact ga
  clear g5 gs gp c0 c1 c2 c3 f0 lmb HV gq gb gz;obtain⟨d0,d1,d2,d3,g0⟩:=cells4 g6.o.blk;have lmb1:mb<W1.heap.size:=Ag d0;go_upto_region 4 with fail;obtain⟨bx,g9⟩:=Ex W1.heap.size;obtain⟨W2,g4⟩:=Ex (W1.alloc (.cells #[.int .i64 op,.int .i64 a,.int .i64 b,.int .i64 c] 260));have g3:Bw W1 W2:=by rw[g4];exact Af _ _
  have g8:W2.heap[bx]?=some (.cells #[.int .i64 op,.int .i64 a,.int .i64 b,.int .i64 c] 260 (0,0)):=by rw[g4,g9];exact WN W1 _
  rw[<- g4,<- g9];have gd:=g6.o.below g7.o g3;have gk:=ga.o.trans (Chg.of_below g3 (fun r=>r=.memo\/r=.entries) _);have gh:=g7.o.mono g3.size;have gm:=Hd gd;have gu:=Hd gk;have gn:=Hd gh;have go:=Hd g8;clear gd gk gh g3 g4 g9 g6 ga g7 d0 d1 d2 d3 g0 lmb1;obtain⟨k0,k1,k2,k3,fk⟩:=cells4 g8;clear g8;refine AR (fun W:Wd=>W.cell? ⟨bx,0,none⟩=some (.int .i64 op)/\W.cell? ⟨bx,1,none⟩=some (.int .i64 a)/\W.cell? ⟨bx,2,none⟩=some (.int .i64 b)/\W.cell? ⟨bx,3,none⟩=some (.int .i64 c)) true 7
   [(0,false),(1,false),(3,false),(4,false),(5,false),(2,true),(6,false),(7,true)] (by kernel_rfl) (by kernel_rfl) ⟨k0,k1,k2,k3⟩ ?_
  simp only[planned,AQ]
  iterate 5
   refine A3 rfl ?_;apply Exists.intro;refine⟨fun w' hw=>?_,?_⟩
   . obtain⟨q0,q1,q2,q3⟩:=hw;go_simp;rfl
   simp only[Ac]
  refine BR (R:=fun v w'=>∃ i,i<4096/\v=.pointer (some ⟨ge,i*6,none⟩)/\Below W2.drew.heap.size W2.drew w') rfl (by go_simp) ((K2 gm.o op a b c).mono (fun e w' he=>?_)) ?_
  . obtain⟨i,hi,rfl,hb⟩:=he;obtain⟨j0,j1,j2,j3,_⟩:=cells4 ((hb.block bx (WL.1 go.o).1).trans go.o);exact⟨_,rfl,⟨j0,j1,j2,j3⟩,i,hi,rfl,hb⟩
  rintro v w3-⟨i,hi,rfl,g2⟩;simp only[Ac];have g2:Bw W2 w3:=(Ap W2 1).trans g2;have g1:=gm.o.below gn.o g2;have gj:=gu.o.trans (Chg.of_below g2 (fun r=>r=.memo\/r=.entries) _);have gg:=gn.o.mono g2.size;obtain⟨n0,n1,n2,n3,n4,n5⟩:=Ir g1.row g1.len hi
  iterate 1
   refine A3 rfl ?_;apply Exists.intro;refine⟨fun w' hw=>?_,?_⟩
   . obtain⟨q0,q1,q2,q3⟩:=hw;go_simp;rfl
   simp only[Ac]
  refine EU rfl rfl (Ky (fun j=>by have:=g1.row.frozen j;exact this) n0 n1 n2 n3 n4 n5 ⟨op,a,b,c,r,true⟩) ?_;simp only[Ac];have gc:=(g1.stored hi (E:=⟨op,a,b,c,r,true⟩) HF.o).is;have gi:=Kz (k:=i) (E:=⟨op,a,b,c,r,true⟩) gj g1.row.owner (.inr rfl);have gf:Ab o1 (set6 w3 ge i ⟨op,a,b,c,r,true⟩):=gg.mono (by simp[set6,World.setCell]);obtain⟨WF,gl⟩:=Ex (set6 w3 ge i ⟨op,a,b,c,r,true⟩);rw[<- gl] at gc gi gf ⊢;clear n0 n1 n2 n3 n4 n5 g1 gj gg g2 k0 k1 k2 k3 fk gl;go_wp2_with fail;refine Yr (Ye rfl _ _ _) rfl ?_;exact⟨rfl,o1,gc,gi,gf⟩
theorem RowR.setCells {o:Own}{r:Role}{e:TypeId}{size n g m cap:Nat}(ys:List Value):∀ (w:Wd) (k:Nat) (xs:List Value),RowR o w r e size (.slice (some ⟨g,0,none⟩) m cap) n xs->k+ys.length<=xs.length ->
 RowR o (w.setCells g k ys) r e size (.slice (some ⟨g,0,none⟩) m cap) n (xs.take k++ys++xs.drop (k+ys.length)):=by
 induction ys with
 | nil=>intro w k xs h _;simpa [World.setCells] using h
 | cons y ys ih =>
   intro w k xs h hl;simp only[Xm] at hl;have h1:=ih (w.setCell ⟨g,k,none⟩ y) (k+1) (xs.set k y) (h.stored k y) (by simp;omega);have e:(xs.set k y).take (k+1)++ys++(xs.set k y).drop (k+1+ys.length)=xs.take k++(y::ys)++xs.drop (k+(y::ys).length):=by
    have e1:(xs.set k y).take (k+1)=xs.take k++[y]:=by
     rw[List.set_eq_take_append_cons_drop,WR (by omega),List.take_append];simp;have:min k xs.length=k:=by omega
     rw[this];simp
     exact Xn (by simp;omega)
    have e2:(xs.set k y).drop (k+1+ys.length)=xs.drop (k+1+ys.length):=by
     rw[List.drop_set];rw[WR (by omega)]
    rw[e1,e2];simp[Yx,Nat.add_comm 1 ys.length]
   rw[e] at h1;exact h1
theorem Chg.setCells {R:Role->Prop}{o o':Own}{w0:Wd}{g:Nat}{r:Role}(hg:o' g=some r)(hR:R r)(ys:List Value):∀ (w:Wd) (k:Nat),Chg R o o' w0 w->Chg R o o' w0 (w.setCells g k ys):=by
 induction ys with
 | nil=>intro w k h;exact h
 | cons y ys ih=>intro w k h;exact ih _ _ (h.setCell (p:=⟨g,k,none⟩) hg hR y)
theorem Pr (hb:b≠g)(ys:List Value):∀ (w:Wd) (k:Nat),(w.setCells g k ys).heap[b]?=w.heap[b]?:=by
 induction ys with
 | nil=>intro w k;rfl
 | cons y ys ih=>intro w k;rw[World.setCells,ih];exact Aw (p:=⟨g,k,none⟩) hb y
theorem Ps (w:Wd):(zeroValue 264).run prog w=.ok (.agg #[.int .i64 0,.int .i64 0,.int .i64 0,.int .i64 0,.int .i64 0,.bool false]) w:=by
 have s:=Kw;cases hi:prog.info? 264 with
 | none=>rw[hi] at s;cases s
 | some i =>
   rw[hi] at s;simp only[XM,X0,Yc] at s;obtain⟨hz,hs,hb⟩:=s;simp[zeroValue,typeInfo,hi,hz]
theorem Pu (n:Nat):(Builtin.zeroCells (Value.cells (.agg #[.int .i64 0,.int .i64 0,.int .i64 0,.int .i64 0,.int .i64 0,.bool false])) n).toList=(List.replicate n ent0).flatMap entV:=Kx n
theorem Pv (w:Wd)(ty:TypeId)(ge cap n:Nat)(hc:∀ j,j<(n+1)*6->(w.cell? ⟨ge,j,none⟩).isSome=true)(hf:∀ j,w.frozen? ⟨ge,j,none⟩=false) :
 (Builtin.clear_ #[191] ty #[.slice (some ⟨ge,0,none⟩) (n+1) cap]).run prog w=.ok (.tuple #[]) (w.setCells ge 0 ((List.replicate (n+1) ent0).flatMap entV)):=by
 have g0:((List.replicate (n+1) ent0).flatMap entV).length=(n+1)*6:=by rw[BP entV 6 C9,XR]
 have g1:=run_storeCells_cells (P:=prog) ge 0 ((List.replicate (n+1) ent0).flatMap entV) 0 w (fun j hj=>by rw[g0] at hj;simpa using hc j hj) (fun j _=>hf _) (fun v hv=>by
  rw[List.mem_flatMap] at hv;obtain⟨E,_,hv⟩:=hv;simp only[entV,XI,YW,or_false] at hv;rcases hv with rfl|rfl|rfl|rfl|rfl|rfl<;>rfl)
 unfold Builtin.clear_;simp only[List.getElem?_toArray,List.getElem?_cons_zero,XH,Xt underlying191,Xs,Ps,Pu,g1];rfl
theorem Pw (w:Wd)(ty:TypeId)(ge cap:Nat)(hc:∀ j,j<4096*6->(w.cell? ⟨ge,j,none⟩).isSome=true)(hf:∀ j,w.frozen? ⟨ge,j,none⟩=false) :
 (Builtin.clear_ #[191] ty #[.slice (some ⟨ge,0,none⟩) 4096 cap]).run prog w=.ok (.tuple #[]) (w.setCells ge 0 ((List.replicate 4096 ent0).flatMap entV)):=Pv w ty ge cap 4095 hc hf
theorem Px (w:Wd)(ty:TypeId):(Builtin.clear_ #[191] ty #[.slice none 0 0]).run prog w=.ok (.tuple #[]) w:=by
 unfold Builtin.clear_;simp only[List.getElem?_toArray,List.getElem?_cons_zero,XH,Xt underlying191,Xs];rfl
abbrev Yd:=@List.append_nil
theorem Py (o:Own)(mb:Nat)(F G:Phi)(w:Wd)(h:AX o w mb F)(hlt:Ab o w) :
 Calls prog 164 #[Pt mb] w fun x w'=>x=.returned (.tuple #[])/\AX o w' mb G/\Chg (· = .entries) o o w w'/\Ab o w':=by
 obtain⟨ve,asked,found,g3,hv⟩:=h.ex;have g1:=h.own;obtain⟨c0,c1,c2,c3,f0⟩:=cells4 g3;rcases hv with rfl|⟨ge,cap,l,rfl,hl,g0,g8⟩
 ·have hr:=Px w 0;have HF:=Hd (show AX o w mb G from ⟨h.own,_,_,_,g3,.inl rfl⟩);have HL:=Hd hlt;clear h hlt g3 g1
  delta Pt;go_enter func164,ntmps164
  go_wp2_with fail;refine Yr (Ye rfl _ _ _) rfl ?_;exact⟨rfl,HF.o,Chg.refl _ _ _,HL.o⟩
 ·have hg:=g0.owner;have g7:mb≠ge:=fun e=>by subst e;rw[hg] at g1;cases g1
  have g2:(l.flatMap entV).length=4096*6:=by rw[BP entV 6 C9,hl]
  have hr:=Pw w 0 ge cap (fun j hj=>by rw[g0.cell j (by rw[g2];exact hj),WS (by rw[g2];exact hj)];rfl) g0.frozen;obtain⟨W,hW⟩:=Ex (w.setCells ge 0 ((List.replicate 4096 ent0).flatMap entV));rw[<- hW] at hr;have g5:((List.replicate 4096 ent0).flatMap entV).length=4096*6:=by rw[BP entV 6 C9,XR]
  have g4:RowR o W .entries 264 6 (.slice (some ⟨ge,0,none⟩) 4096 cap) 4096 ((List.replicate 4096 ent0).flatMap entV):=by
   have:=RowR.setCells ((List.replicate 4096 ent0).flatMap entV) w 0 _ g0 (by rw[g5,g2];omega);rw[Zi,XK,Xw,Yw (by rw[g5,g2];exact WM _),Yd,<- hW] at this;exact this
  have g6:Chg (· = .entries) o o w W:=by rw[hW];exact Chg.setCells (R:=(· = .entries)) hg rfl _ _ _ (Chg.refl _ _ _)
  have HF:=Hd (show AX o W mb G from ⟨g1,_,_,_,(by rw[hW];exact(Pr g7 _ _ _).trans g3),.inr ⟨ge,cap,_,rfl,XR,g4,K0 G _⟩⟩);have HL:=Hd (hlt.mono g6.size);have HC:=Hd g6;clear h hlt g3 g1 hl g0 g8 hg g2 g5 g4 g6 hW g7
  delta Pt;go_enter func164,ntmps164
  go_wp2_with fail;refine Yr (Ye rfl _ _ _) rfl ?_;exact⟨rfl,HF.o,HC.o,HL.o⟩
theorem Pz (o:Own)(F:Phi)(w:Wd)(hlt:Ab o w) :
 Calls prog 61 #[.int .i64 4096] w fun x w'=>∃ mb o',x=.returned (.pointer (some ⟨mb,0,none⟩))/\AX o' w' mb F/\Chg (· = .memo) o o' w w'/\Ab o' w'/\w.heap.size<=mb:=by
 have HL:=Hd hlt;clear hlt
 go_enter func61,ntmps61
 go_wp2_with fail;go_ret;exact⟨w.heap.size,AB o w.heap.size .memo,rfl,⟨Br _ _ _,_,_,_,WN w _,.inl rfl⟩,(Chg.refl _ o w).allocR HL.o _ rfl,HL.o.allocR _ _,WM _⟩
theorem DO (w:Wd)(T:TypeId):(Instr.makeMap T none).run P w=.ok (.map (some w.heap.size)) (w.alloc (.map #[] 0)):=rfl
theorem P0 (o:Own)(v:Nat)(w:Wd)(hlt:Ab o w) :
 Calls prog 122 #[] w fun x w'=>∃ t o',x=.returned (.pointer (some ⟨t,0,none⟩))/\AJ o' w' v t (fun _=>none)/\Chg (fun r=>r=.tab v\/r=.tmap v) o o' w w'/\Ab o' w'/\w.heap.size<=t:=by
 have HL:=Hd hlt;have hm:=DO (P:=prog) w 232;clear hlt
 go_enter func122,ntmps122
 go_wp2_with fail;go_ret;have g0:=HL.o.allocR (.map #[] 0) (.tmap v);have g4:=((Chg.refl (fun r=>r=.tab v\/r=.tmap v) o w).allocR (r:=.tmap v) HL.o (.map #[] 0) (.inr rfl));have g2:=g0.allocR (.cells #[.map (some w.heap.size)] 234) (.tab v);have g3:=g4.allocR (r:=.tab v) g0 (.cells #[.map (some w.heap.size)] 234) (.inl rfl);have hz:(w.alloc (.map #[] 0)).heap.size=w.heap.size+1:=by simp
 have g1:w.heap.size<(w.alloc (.map #[] 0)).heap.size:=by rw[hz];omega
 refine⟨w.heap.size+1,_,rfl,⟨by rw[<- hz];exact Br _ _ _,w.heap.size,[],by rw[<- hz];exact WN _ _,CK g0 (WM _) (Br _ _ _),⟨⟨#[],0,(WT _ _ g1).trans (WN w _),rfl,by simp,by simp⟩,by simp⟩,fun k=>rfl⟩,g3,g2,by omega⟩
section
variable {m:Nat}
structure Left (P:Program)(l:List Oper)(Q:Exit->Act->Wd->Prop)(S:Wd->Prop)(m f:Nat)(L:Array Bool)(a:Act)(w:Wd):Prop where
 goes:Closed l.toArray L->S w->DM P l.toArray (NP Q) S m f L a w
theorem Is (S:Wd->Prop)(m:Nat)(hm:P.follows .mixedOrders=true)(hS:S w.drew)
 (h:Left P l Q S m l.length (Array.replicate l.toArray.size false) a w.drew):(Code.region id l.toArray true).wp P Q a w :=
 Kl (wp_region_any hm (FH _ _ _ _ (h.goes (FG _) hS)))
theorem P1 (i:Nat)(o:Oper)(v:Value)(hi:l[i]?=some o)
 (hB:(Region.noSelect l.toArray&&(Region.ready .any l.toArray L).contains i&&Region.free .any l.toArray L i&&(decide (l.toArray.size<=m)||reaches l.toArray l.toArray.size i m))=true)
 (hy:∀ w,S w->YieldsIf P l.toArray S o v a) (h:Left P l Q S m f (L.setIfInBounds i true) (a.put o.dst v) w):Left P l Q S m (f+1) L a w:=by
 refine⟨fun hc hS=>?_⟩;simp only[Xq] at hB;obtain⟨⟨⟨hs,hr⟩,hf⟩,hm⟩:=hB;have g1:l.toArray[i]?=some o:=by simpa using hi
 have g0:i∈Region.ready .any l.toArray L:=by simpa using hr
 exact GZ g1 hs (fun _ _ _ _ _ h=>h) hm f L a w hc (Zs g1 hf) g0 (hy w hS) hS (h.goes (hc.set g0) hS)
theorem BZ (i:Nat){o:Oper}(hi:l[i]?=some o)(hg:o.guard=none)
 (hB:(Region.noSelect l.toArray&&(Region.ready .any l.toArray L).contains i&&Region.free .any l.toArray L i&&(decide (l.toArray.size<=m)||reaches l.toArray l.toArray.size i m))=true)
 (h:∃ v,(∀ w,S w->(execOp a.eval o).run P w=.ok (.value v) w)/\Left P l Q S m f (L.setIfInBounds i true) (a.put o.dst v) w):Left P l Q S m (f+1) L a w:=by
 obtain⟨v,h1,h2⟩:=h;exact P1 i o v hi hB (fun w _=>.inl ⟨by simp[Region.wanted,hg],h1⟩) h2
theorem D0 (is:List Nat)(hr:(decide (Region.ready .any l.toArray L=is) && !is.isEmpty)=true)
 (h:∀ i∈is,S w->∀ o,l[i]?=some o->Region.wanted o (yielded l.toArray a.tmps)=true/\o.wp P a w (fun a' w'=>S w'/\Left P l Q S m f (L.setIfInBounds i true) a' w') (NP Q)):Left P l Q S m (f+1) L a w:=by
 refine⟨fun hc hS=>?_⟩;simp only[Xq,XD] at hr;obtain⟨hr,g1⟩:=hr;refine⟨fun h0=>(by rw[h0] at hr;subst hr;simp at g1),fun i hi=>?_⟩;have g2:i∈is:=by rw[<- hr];exact hi
 obtain⟨_,o,ho,_⟩:=Zd.1 hi;obtain⟨hw,g0⟩:=h i g2 hS o (by simpa using ho);unfold wpOp;rw[ho];simp only[hw,XP];left;refine Oper.wp_mono ?_ g0;intro a' w' ⟨h1,h2⟩;exact⟨.inr h1,h2.goes (hc.set hi) h1⟩
theorem FU (hr:(Region.ready .any l.toArray L).isEmpty=true)(h:Q .normal a w):Left P l Q S m 0 L a w :=
 ⟨fun _ _=>⟨by simpa [YX] using hr,h⟩⟩
theorem CP {o:Oper}{K:Act->Wd->Prop}(he:(execOp a.eval o).run P w=.ok (.value v) w')(h:K (a.put o.dst v) w'):o.wp P a w K Q:=by
 unfold Oper.wp;rw[he];exact h
end
def pool0 (room:Nat):Ad:=⟨room,[rn0],[false],[],0⟩
abbrev Bi:Obj:=.cells #[.int .i64 0,.int .i64 0,.int .i64 0,.int .i64 0,.int .i64 0] 236
abbrev Bj:Obj:=.cells #[.bool false] 4
theorem K5 {o:Own}{gs gt:Nat}(hr:room<=1048576)(hop:o pb=some .pool)(hos:o gs=some .slots)(hot:o gt=some .taken)
 (hpb:w.heap[pb]?=some (.cells #[.int .i64 room,.slice (some ⟨gs,0,none⟩) 1 1,.slice (some ⟨gt,0,none⟩) 1 1,.slice none 0 0,.int .i64 0] 231 (0,0)))
 (hs:w.heap[gs]?=some Bi) (ht:w.heap[gt]?=some Bj):Aq o w pb (pool0 room):=by
 refine⟨hop,⟨_,_,_,hpb,⟨rfl,.inr ⟨gs,1,_,rfl,hos,hs,WM _,by decide,by decide,rfl⟩⟩,⟨rfl,.inr ⟨gt,1,_,rfl,hot,ht,WM _,by decide,by decide,rfl⟩⟩,RowR.nil _ _ _ _ _⟩,rfl,hr,by simp[pool0],rfl,by simp[pool0],?_,rfl,by simp[pool0],by simp[pool0],?_⟩
 ·intro i hi;have:(pool0 room).tk i=false:=by
   cases i<;>rfl
  rw[this] at hi;cases hi
 . simp[pool0,Ah,Ad.tk]
theorem P2:madeCells (Value.cells (.agg #[.int .i64 0,.int .i64 0,.int .i64 0,.int .i64 0,.int .i64 0])) (Int.toNat 1*5)=#[.int .i64 0,.int .i64 0,.int .i64 0,.int .i64 0,.int .i64 0]:=by kernel_rfl
theorem P3:madeCells (Value.cells (.bool false)) (Int.toNat 1*1)=#[.bool false]:=by kernel_rfl
theorem P4 (w:Wd):(Instr.makeSlice 229 (.int .i64 1) (.int .i64 1)).run prog w=.ok (.slice (some ⟨w.heap.size,0,none⟩) 1 1) (w.alloc Bi):=by
 have s:=FQ;cases hi:prog.info? 236 with
 | none=>rw[hi] at s;cases s
 | some i =>
   rw[hi] at s;simp only[XM,X0,Yc] at s;obtain⟨hz,hs,hb⟩:=s;have:=run_make (P:=prog) w 229 236 i _ underlying229 hi hz .i64 .i64 1 1 (by decide) (by decide) (by rw[hb];decide) (by decide);rw[hs,P2] at this;exact this
theorem P5 (w:Wd):(Instr.makeSlice 54 (.int .i64 1) (.int .i64 1)).run prog w=.ok (.slice (some ⟨w.heap.size,0,none⟩) 1 1) (w.alloc Bj):=by
 have s:=Ie;cases hi:prog.info? 4 with
 | none=>rw[hi] at s;cases s
 | some i =>
   rw[hi] at s;simp only[XM,X0,Yc] at s;obtain⟨hz,hs,hb⟩:=s;have:=run_make (P:=prog) w 54 4 i _ underlying54 hi hz .i64 .i64 1 1 (by decide) (by decide) (by rw[hb];decide) (by decide);rw[hs,P3] at this;exact this
abbrev NewR (r:Role):Prop:=r=.pool\/r=.slots\/r=.taken
theorem made2 {o:Own}(hlt:Ab o w)(A B C:Obj)(ra rb:Role)(h1:NewR ra)(h2:NewR rb) :
 ∃ o',o' w.heap.size=some ra/\o' (w.heap.size+1)=some rb/\o' (w.heap.size+2)=some .pool/\Chg NewR o o' w (((w.alloc A).alloc B).alloc C)/\Ab o' (((w.alloc A).alloc B).alloc C) /\
  (((w.alloc A).alloc B).alloc C).heap[w.heap.size]?=some A/\(((w.alloc A).alloc B).alloc C).heap[w.heap.size+1]?=some B/\(((w.alloc A).alloc B).alloc C).heap[w.heap.size+2]?=some C:=by
 have z1:(w.alloc A).heap.size=w.heap.size+1:=by simp
 have z2:((w.alloc A).alloc B).heap.size=w.heap.size+2:=by simp
 have l1:=hlt.allocR A ra;have c1:=(Chg.refl NewR o w).allocR hlt A h1;have l2:=l1.allocR B rb;have c2:=c1.allocR l1 B h2;have l3:=l2.allocR C .pool;have c3:=c2.allocR l2 C (show NewR .pool from .inl rfl);refine⟨_,?_,?_,?_,c3,l3,?_,?_,?_⟩
 . exact CK l2 (WM _) (CK l1 (WM _) (Br _ _ _))
 . rw[<- z1];exact CK l2 (WM _) (Br _ _ _)
 . rw[<- z2];exact Br _ _ _
 . rw[WT _ _ (by omega),WT _ _ (by omega)];exact WN w A
 . rw[WT _ _ (by omega),<- z1];exact WN _ B
 . rw[<- z2];exact WN _ C
theorem P6 (o:Own)(room:Nat)(w:Wd)(hlt:Ab o w)(h1:1<=room)(h2:room<=1048576) :
 Calls prog 120 #[.int .i64 room] w fun x w'=>∃ pb o',x=.returned (.tuple #[.pointer (some ⟨pb,0,none⟩),.int .i64 0])/\Aq o' w' pb (pool0 room)/\Chg NewR o o' w w'/\Ab o' w'/\w.heap.size<=pb:=by
 have HL:=Hd hlt;have b1:(1:Int)<=room:=by omega
 have b2:(room:Int)<=1048576:=by omega
 have g2:=Hd P4;have g1:=Hd P5;clear hlt
 go_enter func120,ntmps120
 go_upto_region 3 with fail;refine Is (fun W=>True) 7 (by kernel_rfl) trivial ?_;refine BZ 0 rfl rfl (by kernel_rfl) ?_;apply Exists.intro;refine⟨fun w' hw=>?_,?_⟩
 . go_simp;rfl
 simp only[Ac];refine D0 [1,2] (by kernel_rfl) (fun i hi hS o ho=>?_);simp only[Cr] at hi;rcases hi with rfl|rfl
 ·simp only[Ce] at ho;subst ho;refine⟨rfl,?_⟩;have hm:=g2.o w.drew;rw[show w.drew.heap.size=w.heap.size from rfl] at hm;refine CP (v:=.slice (some ⟨w.heap.size,0,none⟩) 1 1) (w':=w.drew.alloc Bi) (by go_simp) ⟨trivial,?_⟩;simp only[Ac];refine D0 [2] (by kernel_rfl) (fun i hi hS o ho=>?_);simp only[Cr] at hi;subst hi;simp only[Ce] at ho;subst ho;refine⟨rfl,?_⟩;have hm:(Instr.makeSlice 54 (.int .i64 1) (.int .i64 1)).run prog (w.alloc Bi).drew=.ok (.slice (some ⟨w.heap.size+1,0,none⟩) 1 1) ((w.alloc Bi).alloc Bj).drew:=by
   have:=g1.o (w.alloc Bi).drew;rw[show (w.alloc Bi).drew.heap.size=w.heap.size+1 from WV w _] at this;exact this
  refine CP (v:=.slice (some ⟨w.heap.size+1,0,none⟩) 1 1) (w':=((w.alloc Bi).alloc Bj).drew) (by go_simp) ⟨trivial,?_⟩;simp only[Ac];refine BZ 3 rfl rfl (by kernel_rfl) ?_;apply Exists.intro;refine⟨fun w' hw=>?_,?_⟩
  . go_simp;rfl
  simp only[Ac];refine D0 [4] (by kernel_rfl) (fun i hi hS o ho=>?_);simp only[Cr] at hi;subst hi;simp only[Ce] at ho;subst ho;refine⟨rfl,?_⟩;have hz:((w.alloc Bi).alloc Bj).heap.size=w.heap.size+2:=by simp
  refine CP (v:=.pointer (some ⟨w.heap.size+2,0,none⟩)) (w':=(((w.alloc Bi).alloc Bj).alloc (.cells #[.int .i64 room,.slice (some ⟨w.heap.size,0,none⟩) 1 1,.slice (some ⟨(w.heap.size+1),0,none⟩) 1 1,.slice none 0 0,.int .i64 0] 231)).drew) (by go_simp) ⟨trivial,?_⟩;simp only[Ac];refine BZ 5 rfl rfl (by kernel_rfl) ?_;apply Exists.intro;refine⟨fun w' hw=>?_,?_⟩
  . go_simp;rfl
  simp only[Ac];refine BZ 6 rfl rfl (by kernel_rfl) ?_;apply Exists.intro;refine⟨fun w' hw=>?_,?_⟩
  . go_simp;rfl
  simp only[Ac];refine FU (by kernel_rfl) ?_;obtain⟨o',q1,q2,q3,q4,q5,q6,q7,q8⟩:=made2 HL.o Bi Bj (.cells #[.int .i64 room,.slice (some ⟨w.heap.size,0,none⟩) 1 1,.slice (some ⟨(w.heap.size+1),0,none⟩) 1 1,.slice none 0 0,.int .i64 0] 231) .slots .taken (.inr (.inl rfl)) (.inr (.inr rfl));have g0:Aq o' (((w.alloc Bi).alloc Bj).alloc (.cells #[.int .i64 room,.slice (some ⟨w.heap.size,0,none⟩) 1 1,.slice (some ⟨(w.heap.size+1),0,none⟩) 1 1,.slice none 0 0,.int .i64 0] 231)).drew (w.heap.size+2) (pool0 room):=K5 h2 q3 q1 q2 q8 q6 q7;have q4':=q4.drew;have q5':Ab o' (((w.alloc Bi).alloc Bj).alloc (.cells #[.int .i64 room,.slice (some ⟨w.heap.size,0,none⟩) 1 1,.slice (some ⟨(w.heap.size+1),0,none⟩) 1 1,.slice none 0 0,.int .i64 0] 231)).drew:=q5;clear q1 q2 q3 q4 q5 q6 q7 q8 hm hz;go_wp2_with fail
  go_ret2
  exact⟨w.heap.size+2,o',rfl,g0,q4',q5',by omega⟩
 ·simp only[Ce] at ho;subst ho;refine⟨rfl,?_⟩;have hm:=g1.o w.drew;rw[show w.drew.heap.size=w.heap.size from rfl] at hm;refine CP (v:=.slice (some ⟨w.heap.size,0,none⟩) 1 1) (w':=w.drew.alloc Bj) (by go_simp) ⟨trivial,?_⟩;simp only[Ac];refine D0 [1] (by kernel_rfl) (fun i hi hS o ho=>?_);simp only[Cr] at hi;subst hi;simp only[Ce] at ho;subst ho;refine⟨rfl,?_⟩;have hm:(Instr.makeSlice 229 (.int .i64 1) (.int .i64 1)).run prog (w.alloc Bj).drew=.ok (.slice (some ⟨w.heap.size+1,0,none⟩) 1 1) ((w.alloc Bj).alloc Bi).drew:=by
   have:=g2.o (w.alloc Bj).drew;rw[show (w.alloc Bj).drew.heap.size=w.heap.size+1 from WV w _] at this;exact this
  refine CP (v:=.slice (some ⟨w.heap.size+1,0,none⟩) 1 1) (w':=((w.alloc Bj).alloc Bi).drew) (by go_simp) ⟨trivial,?_⟩;simp only[Ac];refine BZ 3 rfl rfl (by kernel_rfl) ?_;apply Exists.intro;refine⟨fun w' hw=>?_,?_⟩
  . go_simp;rfl
  simp only[Ac];refine D0 [4] (by kernel_rfl) (fun i hi hS o ho=>?_);simp only[Cr] at hi;subst hi;simp only[Ce] at ho;subst ho;refine⟨rfl,?_⟩;have hz:((w.alloc Bj).alloc Bi).heap.size=w.heap.size+2:=by simp
  refine CP (v:=.pointer (some ⟨w.heap.size+2,0,none⟩)) (w':=(((w.alloc Bj).alloc Bi).alloc (.cells #[.int .i64 room,.slice (some ⟨(w.heap.size+1),0,none⟩) 1 1,.slice (some ⟨w.heap.size,0,none⟩) 1 1,.slice none 0 0,.int .i64 0] 231)).drew) (by go_simp) ⟨trivial,?_⟩;simp only[Ac];refine BZ 5 rfl rfl (by kernel_rfl) ?_;apply Exists.intro;refine⟨fun w' hw=>?_,?_⟩
  . go_simp;rfl
  simp only[Ac];refine BZ 6 rfl rfl (by kernel_rfl) ?_;apply Exists.intro;refine⟨fun w' hw=>?_,?_⟩
  . go_simp;rfl
  simp only[Ac];refine FU (by kernel_rfl) ?_;obtain⟨o',q1,q2,q3,q4,q5,q6,q7,q8⟩:=made2 HL.o Bj Bi (.cells #[.int .i64 room,.slice (some ⟨(w.heap.size+1),0,none⟩) 1 1,.slice (some ⟨w.heap.size,0,none⟩) 1 1,.slice none 0 0,.int .i64 0] 231) .taken .slots (.inr (.inr rfl)) (.inr (.inl rfl));have g0:Aq o' (((w.alloc Bj).alloc Bi).alloc (.cells #[.int .i64 room,.slice (some ⟨(w.heap.size+1),0,none⟩) 1 1,.slice (some ⟨w.heap.size,0,none⟩) 1 1,.slice none 0 0,.int .i64 0] 231)).drew (w.heap.size+2) (pool0 room):=K5 h2 q3 q2 q1 q8 q7 q6;have q4':=q4.drew;have q5':Ab o' (((w.alloc Bj).alloc Bi).alloc (.cells #[.int .i64 room,.slice (some ⟨(w.heap.size+1),0,none⟩) 1 1,.slice (some ⟨w.heap.size,0,none⟩) 1 1,.slice none 0 0,.int .i64 0] 231)).drew:=q5;clear q1 q2 q3 q4 q5 q6 q7 q8 hm hz;go_wp2_with fail
  go_ret2
  exact⟨w.heap.size+2,o',rfl,g0,q4',q5',by omega⟩
structure Ae where
 vars:List Nat
 level:List Nat
 pool:Ad
 tab:Nat->Nat×Nat->Option Nat
 counts:List Nat
 dead:Nat
variable {d d':Ae}
structure B9 where
 lb:Nat
 pb:Nat
 vv:Value
 vl:Value
 vt:Value
 vc:Value
 ts:List Nat
variable {s:B9}
def ptrV (b:Nat):Value:=.pointer (some ⟨b,0,none⟩)
structure Ao (o:Own)(w:Wd)(sb:Nat)(d:Ae)(s:B9):Prop where
 own:o sb=some .store
 ownl:o s.lb=some .levels
 blk:w.heap[sb]?=some (.cells #[.pointer (some ⟨s.lb,0,none⟩),.pointer (some ⟨s.pb,0,none⟩),s.vt,s.vc,.int .i64 d.dead] 188 (0,0))
 lev:w.heap[s.lb]?=some (.cells #[s.vv,s.vl] 185 (0,0))
 vars:RowR o w .vars 3 1 s.vv d.vars.length (d.vars.map nat64)
 level:RowR o w .level 3 1 s.vl d.level.length (d.level.map nat64)
 pool:Aq o w s.pb d.pool
 tabs:RowR o w .tabs 189 1 s.vt s.ts.length (s.ts.map ptrV)
 tab:∀ v,v<s.ts.length->AJ o w v (s.ts.getD v 0) (d.tab v)
 counts:RowR o w .counts 3 1 s.vc d.counts.length (d.counts.map nat64)
 len:d.level.length=d.vars.length
 tlen:s.ts.length=d.vars.length
def Ay (o:Own)(w:Wd)(sb:Nat)(d:Ae):Prop:=∃ s,Ao o w sb d s
theorem Ao.below {o:Own}{w w':Wd}{sb:Nat}{d:Ae}{s:B9}(h:Ao o w sb d s)(hlt:Ab o w)(hb:Bw w w'):Ao o w' sb d s :=
 ⟨h.own,h.ownl,(hb.block sb (hlt _ _ h.own)).trans h.blk,(hb.block s.lb (hlt _ _ h.ownl)).trans h.lev,h.vars.below hlt hb,h.level.below hlt hb,h.pool.below hb hlt,h.tabs.below hlt hb,fun v hv=>(h.tab v hv).below hb hlt,h.counts.below hlt hb,h.len,h.tlen⟩
def Ae.levelOf (d:Ae)(v:Nat):Int:=if v<d.level.length then (d.level.getD v 0:Nat) else -1
theorem cells2 {a b:Value}(h:w.heap[g]?=some (.cells #[a,b] T (0,0))):w.cell? ⟨g,0,none⟩=some a/\w.cell? ⟨g,1,none⟩=some b/\(∀ k,w.frozen? ⟨g,k,none⟩=false) :=
 ⟨by rw[WQ w g 0 _ _ _ h];rfl,by rw[WQ w g 1 _ _ _ h];rfl,fun k=>by simp[World.frozen?,h]⟩
theorem P7 {o:Own}(h:Ao o w sb d s)(v:Nat)(hbig:d.level.length<1000000) :
 Calls prog 153 #[Pt s.lb,.int .i64 v] w (Sm (.int .i64 (d.levelOf v)) w):=by
 obtain⟨c0,c1,_⟩:=cells2 h.lev;obtain⟨a,cap,g1,_⟩:=h.level.slice;rw[g1] at c1;have g0:=h.level;rw[g1] at g0
 by_cases hv:v<d.level.length
 ·obtain⟨g,cap',he,_⟩:=g0.shape (by omega);cases he;have hx:=g0.cell v (by simpa using hv);have g2:(d.level.map nat64)[v]?=some (.int .i64 ((d.level.getD v 0:Nat):Int)):=by
   rw[XC,WS hv];simp[nat64,List.getD,hv]
  rw[g2] at hx;have g3:(v:Int)<d.level.length:=by omega
  have hr:d.levelOf v=((d.level.getD v 0:Nat):Int):=by simp[Ae.levelOf,hv]
  rw[hr];obtain⟨L,hL⟩:=Ex (((d.level.getD v 0:Nat):Int):Int);rw[<- hL] at hx ⊢;clear h g0 g1 g2 hr hL
  delta Pt;go_enter func153,ntmps153
  go_wp2_with fail;go_ret;exact⟨rfl,rfl⟩
 ·have g3:(d.level.length:Int)<=v:=by omega
  have hr:d.levelOf v = -1:=by simp[Ae.levelOf,hv]
  rw[hr];clear h g0 g1 hr
  delta Pt;go_enter func153,ntmps153
  go_wp2_with fail;go_ret;exact⟨rfl,rfl⟩
theorem It {o:Own}(h:Ao o w sb d s)(v:Nat)(hbig:d.level.length<1000000) :
 Calls prog 114 #[Pt sb,.int .i64 v] w (Sm (.int .i64 (d.levelOf v)) w):=by
 obtain⟨c0,c1,c2,c3,c4,f0⟩:=cells5 h.blk;have HC:=Hd (P7 h v hbig);clear h
 delta Pt;go_enter func114,ntmps114
 go_wp2_with fail;refine HC.o.mono ?_;rintro x w' ⟨rfl,rfl⟩;go_wp2_with fail;go_ret;exact⟨rfl,rfl⟩
def Ad.has (p:Ad)(i:Nat):RN:=if p.tk i=true then p.nd i else rn0
theorem Dh (o:Own)(pb:Nat)(p:Ad)(i:Nat)(w:Wd)(h:Aq o w pb p)(hlt:Ab o w) :
 Calls prog 160 #[Pt pb,.int .i64 i] w (Bl (.tuple #[Am (p.has i),.bool (p.tk i)]) w):=by
 by_cases hi:p.tk i=true
 . have:=Kn o pb p i w h hlt hi;unfold Ad.has;rw[WR hi,hi];exact this
 ·have g0:p.tk i=false:=by simpa using hi
  have:=OV o pb p i w h hlt g0;unfold Ad.has;rw[WO hi,g0];exact this
theorem K6 (k:Nat):(((k:Nat):Int) == 0)=decide (k=0):=by
 cases k with
 | zero=>rfl
 | succ n=>simp;omega
theorem CQ {o:Oper}{f:FuncId}{K:Act->Wd->Prop}{R:Wd->Prop}(he:(execOp a.eval o).run P w=.ok (.enter f args) w)
 (hc:Calls P f args w fun e w'=>e=.returned v/\R w') (h:∀ w',R w'->K (a.put o.dst v) w'):o.wp P a w K Q:=by
 unfold Oper.wp;simp only[he,Oper.upon];exact hc.mono fun e w' ⟨h1,h2⟩=>by subst h1;exact h w' h2
theorem K7 {o:Oper}{s x:Operand}{K:Act->Wd->Prop}(ho:o.op=.store t s x)
 (hr:(Instr.storeAt t (a.eval s) (a.eval x)).run P w=.ok () w') (h:K (a.put o.dst undef) w'):o.wp P a w K Q:=by
 unfold Oper.wp;rw[Ig ho hr];exact h
theorem K8 {bx:Nat}(hb:Bw w W)(hge:w.heap.size<=bx)(n:RN):Bw w (set5 W bx 0 n) :=
 ((((hb.setCell (p:=⟨bx,0,none⟩) hge _).setCell (p:=⟨bx,1,none⟩) hge _).setCell (p:=⟨bx,2,none⟩) hge _).setCell (p:=⟨bx,3,none⟩) hge _).setCell (p:=⟨bx,4,none⟩) hge _
theorem P8 {bx:Nat}(h:W.heap[bx]?=some (.cells #[.int .i64 0,.int .i64 0,.int .i64 0,.int .i64 0,.int .i64 0] 236 (0,0)))(n:RN) :
 (set5 W bx 0 n).heap[bx]?=some (.cells #[.int .i64 n.id,.int .i64 n.v,.int .i64 n.lo,.int .i64 n.hi,.int .i64 n.refs] 236 (0,0)) :=
 Az (k:=4) (Az (k:=3) (Az (k:=2) (Az (k:=1) (Az (k:=0) h _) _) _) _) _
theorem Ep (a:Act){d:Option Tmp}{t:Tmp}(u v:Value)(h:d≠some t):(a.put (some t) u).put d v=(a.put d v).put (some t) u:=by
 cases d with
 | none=>rfl
 | some e =>
   have g0:t≠e:=fun c=>h (by rw[c])
   simp only[Act.put];rw[YA _ _ g0]
theorem P9 (a:Act)(t:Tmp)(u v:Value):(a.put (some t) u).put (some t) v=a.put (some t) v:=by
 simp only[Act.put,Array.setIfInBounds_setIfInBounds]
abbrev YJ:=@Array.getElem?_setIfInBounds
theorem PA (a:Act)(t:Tmp):a.put (some t) (a.tmps.getD t undef)=a:=by
 simp only[Act.put];have:a.tmps.setIfInBounds t (a.tmps.getD t undef)=a.tmps:=by
  apply Array.ext_getElem?;intro i;rw[YJ];split
  ·rename_i e
   subst e;split
   ·rename_i hl
    simp[Array.getD,hl]
   ·rename_i hl
    exact(YH (by omega)).symm
  . rfl
 rw[this]
def lwd (l:List Oper)(is:List Nat):Array Bool:=is.foldl (fun L i=>L.setIfInBounds i true) (Array.replicate l.toArray.size false)
abbrev YQ:=@List.foldl_append
theorem Iu (l:List Oper)(is:List Nat)(i:Nat):lwd l (is++[i])=(lwd l is).setIfInBounds i true:=by
 unfold lwd;rw[YQ];rfl
def rdR (l:List Oper)(is:List Nat)(i:Nat):Bool:=Region.noSelect l.toArray&&(Region.ready .any l.toArray (lwd l is)).contains i&&Region.free .any l.toArray (lwd l is) i&&(decide (l.toArray.size<=13)||reaches l.toArray l.toArray.size i 13)
def rdA (l:List Oper)(is js:List Nat):Bool:=decide (Region.ready .any l.toArray (lwd l is)=js) && !js.isEmpty
def rdE (l:List Oper)(is:List Nat):Bool:=(Region.ready .any l.toArray (lwd l is)).isEmpty
def andL:List Bool->Bool
 | []=>true
 | b::r=>b&&andL r
theorem AM {r:List Bool}(h:andL r=true)(i:Nat){b:Bool}(hb:r[i]?=some b):b=true:=by
 induction r generalizing i with
 | nil=>simp at hb
 | cons c r ih =>
   have h2:(c&&andL r)=true:=h;rw[Xq] at h2;cases i with
   | zero=>simp at hb;rw[<- hb];exact h2.1
   | succ i=>exact ih h2.2 i (by simpa using hb)
def PB (l:List Oper):List Bool:=[rdR l [] 0,
 rdR l ([]++[0]) 1,
 rdR l (([]++[0])++[1]) 2,
 rdR l ((([]++[0])++[1])++[2]) 3,
 rdR l (((([]++[0])++[1])++[2])++[3]) 4,
 rdA l ((((([]++[0])++[1])++[2])++[3])++[4]) [5,10],
 rdA l (((((([]++[0])++[1])++[2])++[3])++[4])++[5]) [6,10],
 rdR l ((((((([]++[0])++[1])++[2])++[3])++[4])++[5])++[6]) 7,
 rdR l (((((((([]++[0])++[1])++[2])++[3])++[4])++[5])++[6])++[7]) 8,
 rdR l ((((((((([]++[0])++[1])++[2])++[3])++[4])++[5])++[6])++[7])++[8]) 9,
 rdA l (((((((((([]++[0])++[1])++[2])++[3])++[4])++[5])++[6])++[7])++[8])++[9]) [10],
 rdA l ((((((((((([]++[0])++[1])++[2])++[3])++[4])++[5])++[6])++[7])++[8])++[9])++[10]) [11],
 rdR l (((((((((((([]++[0])++[1])++[2])++[3])++[4])++[5])++[6])++[7])++[8])++[9])++[10])++[11]) 12,
 rdE l ((((((((((((([]++[0])++[1])++[2])++[3])++[4])++[5])++[6])++[7])++[8])++[9])++[10])++[11])++[12]),
 rdA l ((((((([]++[0])++[1])++[2])++[3])++[4])++[5])++[10]) [6],
 rdR l (((((((([]++[0])++[1])++[2])++[3])++[4])++[5])++[10])++[6]) 7,
 rdR l ((((((((([]++[0])++[1])++[2])++[3])++[4])++[5])++[10])++[6])++[7]) 8,
 rdR l (((((((((([]++[0])++[1])++[2])++[3])++[4])++[5])++[10])++[6])++[7])++[8]) 9,
 rdA l ((((((((((([]++[0])++[1])++[2])++[3])++[4])++[5])++[10])++[6])++[7])++[8])++[9]) [11],
 rdR l (((((((((((([]++[0])++[1])++[2])++[3])++[4])++[5])++[10])++[6])++[7])++[8])++[9])++[11]) 12,
 rdE l ((((((((((((([]++[0])++[1])++[2])++[3])++[4])++[5])++[10])++[6])++[7])++[8])++[9])++[11])++[12]),
 rdA l (((((([]++[0])++[1])++[2])++[3])++[4])++[10]) [5],
 rdA l ((((((([]++[0])++[1])++[2])++[3])++[4])++[10])++[5]) [6],
 rdR l (((((((([]++[0])++[1])++[2])++[3])++[4])++[10])++[5])++[6]) 7,
 rdR l ((((((((([]++[0])++[1])++[2])++[3])++[4])++[10])++[5])++[6])++[7]) 8,
 rdR l (((((((((([]++[0])++[1])++[2])++[3])++[4])++[10])++[5])++[6])++[7])++[8]) 9,
 rdA l ((((((((((([]++[0])++[1])++[2])++[3])++[4])++[10])++[5])++[6])++[7])++[8])++[9]) [11],
 rdR l (((((((((((([]++[0])++[1])++[2])++[3])++[4])++[10])++[5])++[6])++[7])++[8])++[9])++[11]) 12,
 rdE l ((((((((((((([]++[0])++[1])++[2])++[3])++[4])++[10])++[5])++[6])++[7])++[8])++[9])++[11])++[12])]
abbrev D1:Obj:=.cells #[.int .i64 0,.int .i64 0,.int .i64 0,.int .i64 0,.int .i64 0] 236
abbrev Iv (n:RN):Obj:=.cells #[.int .i64 n.id,.int .i64 n.v,.int .i64 n.lo,.int .i64 n.hi,.int .i64 n.refs] 236 (0,0)
section
theorem EW {is:List Nat}{o:Oper}(hr:rdA l is [i]=true)(ho:l[i]?=some o)(hg:o.guard=none)
 (h:S w->o.wp P a w (fun a' w'=>S w'/\Left P l Q S 13 f (lwd l (is++[i])) a' w') (NP Q)):Left P l Q S 13 (f+1) (lwd l is) a w :=
 D0 [i] hr fun j hj hS o2 ho2=>by
  rw[Xg] at hj;subst hj;rw[ho] at ho2;cases ho2;rw[<- Iu];exact⟨by simp[Region.wanted,hg],h hS⟩
theorem K9 {is:List Nat}{o p:Oper}(hr:rdA l is [i,j]=true)(ho:l[i]?=some o)(hp:l[j]?=some p)(hg:o.guard=none)(hq:p.guard=none)
 (h:S w->o.wp P a w (fun a' w'=>S w'/\Left P l Q S 13 f (lwd l (is++[i])) a' w') (NP Q)) (h2:S w->p.wp P a w (fun a' w'=>S w'/\Left P l Q S 13 f (lwd l (is++[j])) a' w') (NP Q)):Left P l Q S 13 (f+1) (lwd l is) a w :=
 D0 [i,j] hr fun k hk hS o2 ho2=>by
  simp only[XI,YW,or_false] at hk;rw[<- Iu];rcases hk with rfl|rfl
  . rw[ho] at ho2;cases ho2;exact⟨by simp[Region.wanted,hg],h hS⟩
  . rw[hp] at ho2;cases ho2;exact⟨by simp[Region.wanted,hq],h2 hS⟩
theorem BS {is:List Nat}{o:Oper}(hB:rdR l is i=true)(ho:l[i]?=some o)(hg:o.guard=none)
 (hv:∀ w,S w->(execOp a.eval o).run P w=.ok (.value v) w) (h:Left P l Q S 13 f (lwd l (is++[i])) (a.put o.dst v) w):Left P l Q S 13 (f+1) (lwd l is) a w :=
 BZ i ho hg hB ⟨v,hv,by rw[<- Iu];exact h⟩
theorem DP {o0 o1 o2 o3 o4 o5 o6 o7 o8 o9 o10 o11 o12:Oper}{t:Tmp}{N:RN}(hl:l=[o0,o1,o2,o3,o4,o5,o6,o7,o8,o9,o10,o11,o12])(rd:andL (PB l)=true)(hm:P.follows .mixedOrders=true)
 (hg:(o0.guard=none/\o1.guard=none/\o2.guard=none/\o3.guard=none/\o4.guard=none/\o5.guard=none/\o6.guard=none)/\o7.guard=none/\o8.guard=none/\o9.guard=none/\o10.guard=none/\o11.guard=none/\o12.guard=none)
 (ht:o10.dst=some t) (hne:o5.dst≠some t/\o6.dst≠some t/\o7.dst≠some t/\o8.dst≠some t/\o9.dst≠some t) (hS:Bw w0 w.drew)
 {v0 v1 v2 v3 v4 v5 v6 v7 v8 v9 v12:Value} {g5 g6:FuncId} {as5 as6:Array Value}
 (c5:∀ W,Bw w0 W->Calls P g5 as5 W (Sm v5 W)) (c6:∀ W,Bw w0 W->Calls P g6 as6 W (Bl v6 W))
 (h0:∀ W,Bw w0 W->(execOp a.eval o0).run P W=.ok (.value v0) W/\(execOp (a.put o0.dst v0).eval o1).run P W=.ok (.value v1) W/\(execOp ((a.put o0.dst v0).put o1.dst v1).eval o2).run P W=.ok (.value v2) W/\(execOp (((a.put o0.dst v0).put o1.dst v1).put o2.dst v2).eval o3).run P W=.ok (.value v3) W/\(execOp ((((a.put o0.dst v0).put o1.dst v1).put o2.dst v2).put o3.dst v3).eval o4).run P W=.ok (.value v4) W)
 (h5:∀ (x:Value) W,(execOp ((((((a.put o0.dst v0).put o1.dst v1).put o2.dst v2).put o3.dst v3).put o4.dst v4).put (some t) x).eval o5).run P W=.ok (.enter g5 as5) W/\(execOp (((((((a.put o0.dst v0).put o1.dst v1).put o2.dst v2).put o3.dst v3).put o4.dst v4).put (some t) x).put o5.dst v5).eval o6).run P W=.ok (.enter g6 as6) W)
 (h7:∀ (x:Value) (W:Wd) (X:Act),X=(((((((a.put o0.dst v0).put o1.dst v1).put o2.dst v2).put o3.dst v3).put o4.dst v4).put (some t) x).put o5.dst v5).put o6.dst v6->(execOp X.eval o7).run P W=.ok (.value v7) W/\(execOp (X.put o7.dst v7).eval o8).run P W=.ok (.value v8) W/\(execOp ((X.put o7.dst v7).put o8.dst v8).eval o9).run P W=.ok (.value v9) W)
 (h10:∀ (a:Act) W,(execOp a.eval o10).run P W=.ok (.value (.pointer (some ⟨W.heap.size,0,none⟩))) (W.alloc D1))
 (h11:∀ (bx:Nat) (W:Wd) (Y:Act),W.heap[bx]?=some (.cells #[.int .i64 0,.int .i64 0,.int .i64 0,.int .i64 0,.int .i64 0] 236 (0,0))->Y=((((((((((a.put o0.dst v0).put o1.dst v1).put o2.dst v2).put o3.dst v3).put o4.dst v4).put (some t) (.pointer (some ⟨bx,0,none⟩))).put o5.dst v5).put o6.dst v6).put o7.dst v7).put o8.dst v8).put o9.dst v9->(∃ T s x,o11.op=.store T s x/\(Instr.storeAt T (Y.eval s) (Y.eval x)).run P W=.ok () (set5 W bx 0 N))/\∀ W,(execOp (Y.put o11.dst undef).eval o12).run P W=.ok (.value v12) W)
 (hf:∀ (bx:Nat) (W:Wd),w0.heap.size<=bx->Bw w0 W->W.heap[bx]?=some (Iv N)->Q .normal ((((((((((((a.put o0.dst v0).put o1.dst v1).put o2.dst v2).put o3.dst v3).put o4.dst v4).put (some t) (.pointer (some ⟨bx,0,none⟩))).put o5.dst v5).put o6.dst v6).put o7.dst v7).put o8.dst v8).put o9.dst v9).put o11.dst undef |>.put o12.dst v12) W) :
 (Code.region id l.toArray true).wp P Q a w:=by
 obtain⟨⟨q0,q1,q2,q3,q4,q5,q6⟩,q7,q8,q9,q10,q11,q12⟩:=hg;obtain⟨n5,n6,n7,n8,n9⟩:=hne;have e0:l[0]?=some o0:=by rw[hl];rfl
 have e1:l[1]?=some o1:=by rw[hl];rfl
 have e2:l[2]?=some o2:=by rw[hl];rfl
 have e3:l[3]?=some o3:=by rw[hl];rfl
 have e4:l[4]?=some o4:=by rw[hl];rfl
 have e5:l[5]?=some o5:=by rw[hl];rfl
 have e6:l[6]?=some o6:=by rw[hl];rfl
 have e7:l[7]?=some o7:=by rw[hl];rfl
 have e8:l[8]?=some o8:=by rw[hl];rfl
 have e9:l[9]?=some o9:=by rw[hl];rfl
 have e10:l[10]?=some o10:=by rw[hl];rfl
 have e11:l[11]?=some o11:=by rw[hl];rfl
 have e12:l[12]?=some o12:=by rw[hl];rfl
 have g3:l.length=13:=by rw[hl];rfl
 clear hl;have r0:=AM rd 0 rfl;have r1:=AM rd 1 rfl;have r2:=AM rd 2 rfl;have r3:=AM rd 3 rfl;have r4:=AM rd 4 rfl;have s0:=AM rd 5 rfl;have s1:=AM rd 6 rfl;have p7:=AM rd 7 rfl;have p8:=AM rd 8 rfl;have p9:=AM rd 9 rfl;have p10:=AM rd 10 rfl;have p11:=AM rd 11 rfl;have p12:=AM rd 12 rfl;have p13:=AM rd 13 rfl;have u6:=AM rd 14 rfl;have u7:=AM rd 15 rfl;have u8:=AM rd 16 rfl;have u9:=AM rd 17 rfl;have u11:=AM rd 18 rfl;have u12:=AM rd 19 rfl;have u13:=AM rd 20 rfl;have k5:=AM rd 21 rfl;have k6:=AM rd 22 rfl;have k7:=AM rd 23 rfl;have k8:=AM rd 24 rfl;have k9:=AM rd 25 rfl;have k11:=AM rd 26 rfl;have k12:=AM rd 27 rfl;have k13:=AM rd 28 rfl;clear rd;refine Is (fun W:Wd=>Bw w0 W) 13 hm hS ?_;rw[g3]
 show Left P l Q (fun W:Wd=>Bw w0 W) 13 13 (lwd l []) a w.drew
 have hw:=hS
 generalize w.drew=w at hw ⊢
 refine BS r0 e0 q0 (fun W hW=>(h0 W hW).1) ?_;refine BS r1 e1 q1 (fun W hW=>(h0 W hW).2.1) ?_;refine BS r2 e2 q2 (fun W hW=>(h0 W hW).2.2.1) ?_;refine BS r3 e3 q3 (fun W hW=>(h0 W hW).2.2.2.1) ?_;refine BS r4 e4 q4 (fun W hW=>(h0 W hW).2.2.2.2) ?_;obtain⟨A,hA⟩:=Ex (((((a.put o0.dst v0).put o1.dst v1).put o2.dst v2).put o3.dst v3).put o4.dst v4);rw[<- hA] at h5 h7 h11 hf ⊢;clear h0 hA;have c5p:∀ (x y:Value),((A.put (some t) x).put o5.dst v5).put (some t) y=(A.put (some t) y).put o5.dst v5:=fun x y=>by
  rw[Ep A x v5 n5,P9,<- Ep A y v5 n5]
 have c9p:∀ (x y:Value),((((((A.put (some t) x).put o5.dst v5).put o6.dst v6).put o7.dst v7).put o8.dst v8).put o9.dst v9).put (some t) y=(((((A.put (some t) y).put o5.dst v5).put o6.dst v6).put o7.dst v7).put o8.dst v8).put o9.dst v9:=fun x y=>by
  rw[<- Ep _ y v9 n9,<- Ep _ y v8 n8,<- Ep _ y v7 n7,<- Ep _ y v6 n6,c5p]
 have fin:∀ (is:List Nat) (bx:Nat) (W:Wd),W.heap[bx]?=some (.cells #[.int .i64 0,.int .i64 0,.int .i64 0,.int .i64 0,.int .i64 0] 236 (0,0))->w0.heap.size<=bx->Bw w0 W ->
  rdA l is [11]=true->rdR l (is++[11]) 12=true->rdE l (is++[11]++[12])=true ->
  Left P l Q (fun W:Wd=>Bw w0 W) 13 2 (lwd l is) ((((((A.put (some t) (.pointer (some ⟨bx,0,none⟩))).put o5.dst v5).put o6.dst v6).put o7.dst v7).put o8.dst v8).put o9.dst v9) W:=fun is bx W hz g2 hW i1 i2 i3=>by
  obtain⟨⟨T,s,x,j1,j2⟩,j3⟩:=h11 bx W _ hz rfl;refine EW i1 e11 q11 fun _=>K7 j1 j2 ⟨K8 hW g2 N,?_⟩
  refine BS i2 e12 q12 (fun W _=>j3 W) ?_;exact FU i3 (hf bx _ g2 (K8 hW g2 N) (P8 hz N))
 refine K9 s0 e5 e10 q5 q10 (fun _=>?_) (fun _=>?_)
 ·obtain⟨x,hx⟩:∃ x,A.put (some t) x=A:=⟨_,PA A t⟩;rw[<- hx];refine CQ (h5 x w).1 (c5 w hw) ?_;rintro W rfl;refine⟨hw,K9 s1 e6 e10 q6 q10 (fun _=>?_) (fun _=>?_)⟩
  ·refine CQ (h5 x w).2 (c6 w hw) fun W hW=>?_
   have g1:=hw.trans (hW.mono hw.size);refine⟨g1,?_⟩;refine BS p7 e7 q7 (fun W _=>(h7 x W _ rfl).1) ?_;refine BS p8 e8 q8 (fun W _=>(h7 x W _ rfl).2.1) ?_;refine BS p9 e9 q9 (fun W _=>(h7 x W _ rfl).2.2) ?_;have g0:=g1.trans ((Af W D1).mono g1.size);refine EW p10 e10 q10 fun _=>CP (h10 _ W) ⟨g0,?_⟩
   rw[ht,c9p];exact fin _ _ _ (WN W _) g1.size g0 p11 p12 p13
  ·have g0:=hw.trans ((Af w D1).mono hw.size);refine CP (h10 _ w) ⟨g0,?_⟩;rw[ht,c5p];have hz:=WN w D1;have g2:w0.heap.size<=w.heap.size:=hw.size
   generalize w.alloc D1=u at g0 hz ⊢
   generalize w.heap.size=bx at hz g2 ⊢
   refine EW u6 e6 q6 fun _=>CQ (h5 _ u).2 (c6 u g0) fun W hW=>?_
   have g1:=g0.trans (hW.mono g0.size);refine⟨g1,?_⟩;refine BS u7 e7 q7 (fun W _=>(h7 _ W _ rfl).1) ?_;refine BS u8 e8 q8 (fun W _=>(h7 _ W _ rfl).2.1) ?_;refine BS u9 e9 q9 (fun W _=>(h7 _ W _ rfl).2.2) ?_;exact fin _ bx W ((hW.block _ (WL.1 hz).1).trans hz) g2 g1 u11 u12 u13
 ·have g0:=hw.trans ((Af w D1).mono hw.size);refine CP (h10 _ w) ⟨g0,?_⟩;rw[ht];have hz:=WN w D1;have g2:w0.heap.size<=w.heap.size:=hw.size
  generalize w.alloc D1=u at g0 hz ⊢
  generalize w.heap.size=bx at hz g2 ⊢
  refine EW k5 e5 q5 fun _=>CQ (h5 _ u).1 (c5 u g0) ?_
  rintro W rfl;refine⟨g0,?_⟩;refine EW k6 e6 q6 fun _=>CQ (h5 _ u).2 (c6 u g0) fun W hW=>?_
  have g1:=g0.trans (hW.mono g0.size);refine⟨g1,?_⟩;refine BS k7 e7 q7 (fun W _=>(h7 _ W _ rfl).1) ?_;refine BS k8 e8 q8 (fun W _=>(h7 _ W _ rfl).2.1) ?_;refine BS k9 e9 q9 (fun W _=>(h7 _ W _ rfl).2.2) ?_;exact fin _ bx W ((hW.block _ (WL.1 hz).1).trans hz) g2 g1 k11 k12 k13
end
theorem Er {o:Own}(h:Ao o w sb d s)(hlt:Ab o w)(f:Nat)(hf:f<eMax) :
 Calls prog 155 #[Pt sb,.int .i64 f] w (Bl (.bool (decide (enode f=0)||d.pool.tk (enode f))) w):=by
 obtain⟨c0,c1,c2,c3,c4,f0⟩:=cells5 h.blk;have lsb:sb<w.heap.size:=Ag c0;have hz:(0:Int)<=f:=by omega
 have g3:Hq (∀ W:Wd,Bw w W->W.cell? ⟨sb,1,none⟩=some (.pointer (some ⟨s.pb,0,none⟩))):=Hd (fun W hb=>(hb.cell (p:=⟨sb,1,none⟩) lsb).trans c1);have g1:Hq (∀ W:Wd,Bw w W->Calls prog 160 #[Pt s.pb,.int .i64 (enode f:Nat)] W (Bl (.tuple #[Am (d.pool.has (enode f)),.bool (d.pool.tk (enode f))]) W)) :=
  Hd (fun W hb=>Dh o s.pb d.pool (enode f) W (h.pool.below hb hlt) (hlt.mono hb.size))
 have HN:=Hd (fun W=>B7 f W hf);obtain⟨N,hN⟩:=Ex (d.pool.has (enode f));obtain⟨B,hB⟩:=Ex (d.pool.tk (enode f));obtain⟨k,hk⟩:=Ex (enode f);rw[<- hN,<- hB,<- hk] at g1;rw[<- hk] at HN;rw[<- hB,<- hk];obtain⟨z,g0⟩:=Ex (decide (k=0):Bool);have g5:(((k:Nat):Int) == 0)=z:=by rw[g0];exact K6 k
 rw[<- g0];clear h hlt c0 c1 c2 c3 c4 f0 hN hB hk hf g0
 delta Pt;go_enter func155,ntmps155
 go_upto_region 3 with fail;refine DP (w0:=w) (N:=N) (v0:=.pointer (some ⟨sb,0,none⟩)) (v1:=.pointer (some ⟨sb,0,none⟩)) (v2:=.pointer (some ⟨sb,1,none⟩)) (v3:=.pointer (some ⟨s.pb,0,none⟩)) (v4:=.int .i64 f) (v5:=.int .i64 k) (v6:=.tuple #[Am N,.bool B]) (v7:=.tuple #[Am N,.bool B]) (v8:=Am N) (v9:=.bool B) (v12:=.bool B) rfl (by kernel_rfl) (by kernel_rfl) ⟨⟨rfl,rfl,rfl,rfl,rfl,rfl,rfl⟩,rfl,rfl,rfl,rfl,rfl,rfl⟩ rfl (by decide) (Ap w 1) (fun W _=>HN.o W) (fun W hb=>g1.o W hb) (fun W hb=>?_) (fun x W=>?_) (fun x W X hX=>?_) (fun a W=>?_) (fun bx W Y hz hY=>?_) (fun bx W3 g6 g2 g4=>?_)
 . have g7:=g3.o W hb;simp only[Ac];refine⟨?_,?_,?_,?_,?_⟩<;>go_simp
 . simp only[Ac];refine⟨?_,?_⟩<;>go_simp
 . subst hX;simp only[Ac];unfold Am;refine⟨?_,?_,?_⟩<;>go_simp
 . go_simp
 . subst hY;obtain⟨e0,e1,e2,e3,e4,fz⟩:=cells5 hz;simp only[Ac];unfold Am;refine⟨⟨_,_,_,rfl,Dw (k:=0) fz e0 e1 e2 e3 e4 _ _ _ _ _⟩,fun W=>?_⟩;go_simp
 simp only[Ac];unfold Am;go_wp2_with fail;refine(HN.o _).mono ?_;rintro x w' ⟨rfl,rfl⟩;cases z
 all_goals go_wp2_with fail
 all_goals go_ret
 all_goals exact⟨rfl,g2⟩
theorem PC {o:Own}(h:Ao o w sb d s)(hlt:Ab o w)(f:Nat)(hf:f<eMax)(lv:Int)(hbig:d.level.length<1000000) :
 Calls prog 178 #[Pt sb,.int .i64 f,.int .i64 lv] w (Bl (.bool (decide (enode f=0)||(d.pool.tk (enode f)&&decide (lv<d.levelOf (d.pool.has (enode f)).v)))) w):=by
 obtain⟨c0,c1,c2,c3,c4,f0⟩:=cells5 h.blk;have lsb:sb<w.heap.size:=Ag c0;have g5:Hq (∀ W:Wd,Bw w W->W.cell? ⟨sb,1,none⟩=some (.pointer (some ⟨s.pb,0,none⟩))):=Hd (fun W hb=>(hb.cell (p:=⟨sb,1,none⟩) lsb).trans c1);have g2:Hq (∀ W:Wd,Bw w W->Calls prog 160 #[Pt s.pb,.int .i64 (enode f:Nat)] W (Bl (.tuple #[Am (d.pool.has (enode f)),.bool (d.pool.tk (enode f))]) W)) :=
  Hd (fun W hb=>Dh o s.pb d.pool (enode f) W (h.pool.below hb hlt) (hlt.mono hb.size))
 have g3:Hq (∀ W:Wd,Bw w W->Calls prog 114 #[Pt sb,.int .i64 ((d.pool.has (enode f)).v:Nat)] W (Sm (.int .i64 (d.levelOf (d.pool.has (enode f)).v)) W)) :=
  Hd (fun W hb=>It (h.below hlt hb) _ hbig)
 have HN:=Hd (fun W=>B7 f W hf);obtain⟨N,hN⟩:=Ex (d.pool.has (enode f));obtain⟨B,hB⟩:=Ex (d.pool.tk (enode f));obtain⟨k,hk⟩:=Ex (enode f);rw[<- hN] at g2 g3;rw[<- hB,<- hk] at g2;rw[<- hk] at HN;rw[<- hB,<- hN,<- hk];obtain⟨M,hM⟩:=Ex (d.levelOf N.v);rw[<- hM] at g3 ⊢;obtain⟨z,g1⟩:=Ex (decide (k=0):Bool);have g6:(((k:Nat):Int) == 0)=z:=by rw[g1];exact K6 k
 rw[<- g1];clear h hlt c0 c1 c2 c3 c4 f0 hN hB hk hf g1 hM
 delta Pt;go_enter func178,ntmps178
 go_upto_region 1 with fail;refine DP (w0:=w) (N:=N) (v0:=.pointer (some ⟨sb,0,none⟩)) (v1:=.pointer (some ⟨sb,0,none⟩)) (v2:=.pointer (some ⟨sb,1,none⟩)) (v3:=.pointer (some ⟨s.pb,0,none⟩)) (v4:=.int .i64 f) (v5:=.int .i64 k) (v6:=.tuple #[Am N,.bool B]) (v7:=.tuple #[Am N,.bool B]) (v8:=Am N) (v9:=.bool B) (v12:=.bool B) rfl (by kernel_rfl) (by kernel_rfl) ⟨⟨rfl,rfl,rfl,rfl,rfl,rfl,rfl⟩,rfl,rfl,rfl,rfl,rfl,rfl⟩ rfl (by decide) (Ap w 1) (fun W _=>HN.o W) (fun W hb=>g2.o W hb) (fun W hb=>?_) (fun x W=>?_) (fun x W X hX=>?_) (fun a W=>?_) (fun bx W Y hz hY=>?_) (fun bx W3 g7 g0 g4=>?_)
 . have g8:=g5.o W hb;simp only[Ac];refine⟨?_,?_,?_,?_,?_⟩<;>go_simp
 . simp only[Ac];refine⟨?_,?_⟩<;>go_simp
 . subst hX;simp only[Ac];unfold Am;refine⟨?_,?_,?_⟩<;>go_simp
 . go_simp
 . subst hY;obtain⟨e0,e1,e2,e3,e4,fz⟩:=cells5 hz;simp only[Ac];unfold Am;refine⟨⟨_,_,_,rfl,Dw (k:=0) fz e0 e1 e2 e3 e4 _ _ _ _ _⟩,fun W=>?_⟩;go_simp
 simp only[Ac];unfold Am;obtain⟨y0,y1,y2,y3,y4,yz⟩:=cells5 g4;go_wp2_with fail;refine(HN.o _).mono ?_;rintro x w' ⟨rfl,rfl⟩;cases z
 ·cases B
  . go_wp2_with fail;go_ret;exact⟨rfl,g0⟩
  . go_wp2_with fail;refine(g3.o _ g0).mono ?_;rintro x w' ⟨rfl,rfl⟩;go_wp2_with fail;go_ret;exact⟨rfl,g0⟩
 . go_wp2_with fail;go_ret;exact⟨rfl,g0⟩
theorem Cx {f:FuncId}
 (h:Calls P f args (w.drewN n) fun e w'=>e=.returned v/\w.drewN n=w'):Calls P f args (w.drewN n) fun e w''=>e=.returned v/\∃ m,w''=w.drewN m :=
 h.mono fun _ _ ⟨he,hm⟩=>⟨he,n,hm.symm⟩
theorem Iw {fn:Func}{t u v x:Tmp}(h:fn.results=#[.tmp t,.tmp u,.tmp v,.tmp x])(tmps:Array Value)(P:Program)(w:Wd) :
 (results fn tmps).run P w=.ok (.tuple #[tmps.getD t undef,tmps.getD u undef,tmps.getD v undef,tmps.getD x undef]) w:=by
 simp[results,h]
theorem KA {o:Own}(h:Ao o w sb d s)(hlt:Ab o w)(f:Nat)(hf:f<eMax)(hlo:(d.pool.has (enode f)).lo<eMax)(hhi:(d.pool.has (enode f)).hi<eMax) :
 Calls prog 140 #[Pt sb,.int .i64 f] w (Bl (if d.pool.tk (enode f)=true then .tuple #[.int .i64 (d.pool.has (enode f)).v,.int .i64 (eflip (d.pool.has (enode f)).lo (eneg f):Nat),.int .i64 (eflip (d.pool.has (enode f)).hi (eneg f):Nat),.bool true] else .tuple #[.int .i64 (-1),.int .i64 0,.int .i64 0,.bool false]) w):=by
 obtain⟨c0,c1,c2,c3,c4,f0⟩:=cells5 h.blk;have lsb:sb<w.heap.size:=Ag c0;have g6:Hq (∀ W:Wd,Bw w W->W.cell? ⟨sb,1,none⟩=some (.pointer (some ⟨s.pb,0,none⟩))):=Hd (fun W hb=>(hb.cell (p:=⟨sb,1,none⟩) lsb).trans c1);have g2:Hq (∀ W:Wd,Bw w W->Calls prog 160 #[Pt s.pb,.int .i64 (enode f:Nat)] W (Bl (.tuple #[Am (d.pool.has (enode f)),.bool (d.pool.tk (enode f))]) W)) :=
  Hd (fun W hb=>Dh o s.pb d.pool (enode f) W (h.pool.below hb hlt) (hlt.mono hb.size))
 have hz:(0:Int)<=f:=by omega
 have HG:=Hd (fun W=>Dt f W hf);have g0:=Hd (fun W b=>Ch (d.pool.has (enode f)).lo b W hlo);have g1:=Hd (fun W b=>Ch (d.pool.has (enode f)).hi b W hhi);have HN:=Hd (fun W=>B7 f W hf);obtain⟨N,hN⟩:=Ex (d.pool.has (enode f));obtain⟨B,hB⟩:=Ex (d.pool.tk (enode f));obtain⟨k,hk⟩:=Ex (enode f);rw[<- hN] at g2 g0 g1;rw[<- hB,<- hk] at g2;rw[<- hk] at HN;rw[<- hB,<- hN];obtain⟨g,hg⟩:=Ex (eneg f:Bool);rw[<- hg] at HG ⊢;have g0:=Hd (fun W=>g0.o W g);have g1:=Hd (fun W=>g1.o W g);obtain⟨A,hA⟩:=Ex (eflip N.lo g);obtain⟨C,hC⟩:=Ex (eflip N.hi g);rw[<- hA] at g0 ⊢;rw[<- hC] at g1 ⊢;obtain⟨RV,g3⟩:=Ex ((if B=true then .tuple #[.int .i64 N.v,.int .i64 (A:Nat),.int .i64 (C:Nat),.bool true] else .tuple #[.int .i64 (-1),.int .i64 0,.int .i64 0,.bool false]):Value);rw[<- g3];have g5:=Hd g3;clear h hlt c0 c1 c2 c3 c4 f0 hN hB hk hf hg hA hC hlo hhi g3
 delta Pt;go_enter func140,ntmps140
 go_upto_region 3 with fail;refine DP (w0:=w) (N:=N) (v0:=.pointer (some ⟨sb,0,none⟩)) (v1:=.pointer (some ⟨sb,0,none⟩)) (v2:=.pointer (some ⟨sb,1,none⟩)) (v3:=.pointer (some ⟨s.pb,0,none⟩)) (v4:=.int .i64 f) (v5:=.int .i64 k) (v6:=.tuple #[Am N,.bool B]) (v7:=.tuple #[Am N,.bool B]) (v8:=Am N) (v9:=.bool B) (v12:=.bool B) rfl (by kernel_rfl) (by kernel_rfl) ⟨⟨rfl,rfl,rfl,rfl,rfl,rfl,rfl⟩,rfl,rfl,rfl,rfl,rfl,rfl⟩ rfl (by decide) (Ap w 1) (fun W _=>HN.o W) (fun W hb=>g2.o W hb) (fun W hb=>?_) (fun x W=>?_) (fun x W X hX=>?_) (fun a W=>?_) (fun bx W Y hz hY=>?_) (fun bx W3 g8 g4 g7=>?_)
 . have g9:=g6.o W hb;simp only[Ac];refine⟨?_,?_,?_,?_,?_⟩<;>go_simp
 . simp only[Ac];refine⟨?_,?_⟩<;>go_simp
 . subst hX;simp only[Ac];unfold Am;refine⟨?_,?_,?_⟩<;>go_simp
 . go_simp
 . subst hY;obtain⟨e0,e1,e2,e3,e4,fz⟩:=cells5 hz;simp only[Ac];unfold Am;refine⟨⟨_,_,_,rfl,Dw (k:=0) fz e0 e1 e2 e3 e4 _ _ _ _ _⟩,fun W=>?_⟩;go_simp
 simp only[Ac];unfold Am;obtain⟨y0,y1,y2,y3,y4,yz⟩:=cells5 g7;clear HN g2 g6;cases B
 . go_wp2_with fail;refine Xc (Iw rfl _ _ _) rfl ⟨?_,g4⟩;rw[g5.o];rfl
 ·go_upto_region 6 with fail
  go_quiet ((first|(with_reducible exact Cx (HG.o _))|(with_reducible exact Cx (g0.o _))|(with_reducible exact Cx (g1.o _))))
  go_wp2_with fail;refine Xc (Iw rfl _ _ _) rfl ⟨?_,Cs g4 _⟩;rw[g5.o];rfl
def bnOf (r:RN):BN:=⟨r.v,r.lo,r.hi⟩
def Aa (d:Ae):Nat->Option BN:=fun i=>(d.pool.get i).map bnOf
def Aj (d:Ae):Nat->Nat:=fun i=>d.counts.getD i 0
def Ae.cd (d:Ae)(cs:List Nat)(dd:Nat):Ae:={ d with counts:=cs,dead:=dd }
theorem BA {b:BN}(h:Aa d i=some b):d.pool.tk i=true/\d.pool.has i=d.pool.nd i/\bnOf (d.pool.has i)=b:=by
 unfold Aa Ad.get at h
 by_cases e:d.pool.tk i=true
 . rw[WR e] at h;refine⟨e,by unfold Ad.has;rw[WR e],?_⟩;unfold Ad.has;rw[WR e];simpa using h
 . rw[WO e] at h;cases h
theorem Ix (h:Aa d i=none):d.pool.tk i=false:=by
 unfold Aa Ad.get at h
 by_cases e:d.pool.tk i=true
 . rw[WR e] at h;cases h
 . simpa using e
structure Acy (N:Nat->Option BN)(rk:Nat->Nat):Prop where
 none0:N 0=none
 okLo:∀ i b,N i=some b->okE N b.lo
 okHi:∀ i b,N i=some b->okE N b.hi
 ltLo:∀ i b c,N i=some b->N (b.lo/2)=some c->rk (b.lo/2)<rk i
 ltHi:∀ i b c,N i=some b->N (b.hi/2)=some c->rk (b.hi/2)<rk i
structure A7 (d:Ae)(ext:Nat->Int):Prop where
 cnt:Cnt d.pool.at_.length (Aa d) (Aj d) ext
 dead:(d.dead:Int)=AW d.pool.at_.length (Aa d) (Aj d)
 has:∀ i b,Aa d i=some b->i<d.counts.length
theorem EX {f:Nat->Int}{B:Int}:∀ (k:Nat),(∀ i,i<k->f i<=B)->Ah k f<=k*B
 | 0,_=>by simp[Ah]
 | k+1,h=>by
   have ih:=EX k (fun i hi=>h i (by omega));have h1:=h k (by omega);have:Ah (k+1) f=Ah k f+f k:=rfl;rw[this];have e:((k+1:Nat):Int)*B=k*B+B:=by rw[Int.natCast_add,Int.add_mul];simp
   omega
theorem PD (N:Nat->Option BN)(c:Nat->Nat)(x p:Nat):from1 N c x p<=2:=by
 unfold from1 Ci toE;split
 ·split
  . split<;>split<;>omega
  . omega
 . omega
theorem Cnt.le {c:Nat->Nat}{ext:Nat->Int}(h:Cnt k N c ext){b:BN}(hx:N x=some b):(c x:Int)<=ext x+2*k:=by
 have h1:=h.eq x b hx;have h2:=EX (f:=from1 N c x) (B:=2) k (fun i _=>PD N c x i);omega
theorem D2 {v dd:Nat}(hx:x<d.counts.length):Aj (d.cd (d.counts.set x v) dd)=setC (Aj d) x v:=by
 funext i;unfold Aj setC Ae.cd;dsimp only
 by_cases e:i=x
 . subst e;simp[List.getD,hx]
 . simp only[List.getD,Xv,WO (X1 e),WO e]
section
variable {ext:Nat->Int}{b:BN}
theorem A7.congr (h:A7 d ext){ext':Nat->Int}(he:∀ x b,Aa d x=some b->ext' x=ext x):A7 d ext':=⟨h.cnt.congr he,h.dead,h.has⟩
theorem A7.moreLive (h:A7 d ext)(hx:Aa d x=some b)(hc:0<Aj d x):A7 (d.cd (d.counts.set x (Aj d x+1)) d.dead) (bump ext x 1):=by
 have hl:=h.has x b hx;refine⟨?_,?_,fun i b' hb=>by simpa [Ae.cd] using h.has i b' hb⟩
 . rw[D2 hl];exact h.cnt.moreLive hc
 ·rw[D2 hl]
  show (d.dead:Int)=AW d.pool.at_.length (Aa d) _
  rw[FF hx (h.cnt.lt x b hx),<- h.dead,WO (by omega),WO (by omega)];omega
theorem A7.moreDead (h:A7 d ext)(hx:Aa d x=some b)(hc:Aj d x=0):0<d.dead/\A7 (d.cd (d.counts.set x 1) (d.dead-1)) (addE (addE (bump ext x 1) b.lo (-1)) b.hi (-1)):=by
 have hl:=h.has x b hx;have hk:=h.cnt.lt x b hx;have h1:=FF (c:=Aj d) (v:=1) hx hk;rw[WO (by omega),WR hc,<- h.dead] at h1;have h2:0<=AW d.pool.at_.length (Aa d) (setC (Aj d) x 1):=FD _ fun i _=>Kk _ _ i
 refine⟨by omega,?_,?_,fun i b' hb=>by simpa [Ae.cd] using h.has i b' hb⟩
 . rw[D2 hl];exact h.cnt.moreDead hx hc
 ·rw[D2 hl]
  show ((d.dead-1:Nat):Int)=AW d.pool.at_.length (Aa d) _
  rw[h1];omega
theorem A7.lessLive (h:A7 d ext)(hx:Aa d x=some b)(hc:1<Aj d x):A7 (d.cd (d.counts.set x (Aj d x-1)) d.dead) (bump ext x (-1)):=by
 have hl:=h.has x b hx;refine⟨?_,?_,fun i b' hb=>by simpa [Ae.cd] using h.has i b' hb⟩
 . rw[D2 hl];exact h.cnt.lessLive hc
 ·rw[D2 hl]
  show (d.dead:Int)=AW d.pool.at_.length (Aa d) _
  rw[FF hx (h.cnt.lt x b hx),<- h.dead,WO (by omega),WO (by omega)];omega
theorem A7.lessDies (h:A7 d ext)(hx:Aa d x=some b)(hc:Aj d x=1):A7 (d.cd (d.counts.set x 0) (d.dead+1)) (addE (addE (bump ext x (-1)) b.lo 1) b.hi 1):=by
 have hl:=h.has x b hx;have hk:=h.cnt.lt x b hx;have h1:=FF (c:=Aj d) (v:=0) hx hk;rw[WR rfl,WO (by omega),<- h.dead] at h1;refine⟨?_,?_,fun i b' hb=>by simpa [Ae.cd] using h.has i b' hb⟩
 . rw[D2 hl];exact h.cnt.lessDies hx hc
 ·rw[D2 hl]
  show ((d.dead+1:Nat):Int)=AW d.pool.at_.length (Aa d) _
  rw[h1];omega
end
def RCnt (r:Role):Prop:=r=.store\/r=.counts
section
variable {o:Own}
theorem Ao.countsAt (h:Ao o w sb d s)(hx:x<d.counts.length):∃ gc cap,s.vc=.slice (some ⟨gc,0,none⟩) d.counts.length cap/\o gc=some .counts/\gc≠sb/\d.counts.length<=cap/\cap<=maxLen/\(∀ k,w.frozen? ⟨gc,k,none⟩=false) /\
 (∀ k,k<d.counts.length->w.cell? ⟨gc,k,none⟩=some (.int .i64 (Aj d k:Nat))):=by
 obtain⟨gc,cap,hv,ho,h1,h2⟩:=h.counts.shape (by omega);have hr:=h.counts;rw[hv] at hr;refine⟨gc,cap,hv,ho,fun e=>(by subst e;rw[h.own] at ho;cases ho),h1,h2,hr.frozen,fun k hk=>?_⟩;rw[hr.cell k (by simpa using hk),XC,WS hk];simp[nat64,Aj,List.getD,hk]
theorem Ao.keepBut (h:Ao o w sb d s)(hg:o g=some .counts\/o g=some .store)(hk:∀ k,k≠g->w'.heap[k]?=w.heap[k]?)
 (hb:∃ dd cs,w'.heap[sb]?=some (.cells #[.pointer (some ⟨s.lb,0,none⟩),.pointer (some ⟨s.pb,0,none⟩),s.vt,s.vc,.int .i64 (dd:Nat)] 188 (0,0))/\RowR o w' .counts 3 1 s.vc cs.length (cs.map nat64)/\d'=d.cd cs dd):Ao o w' sb d' s:=by
 obtain⟨dd,cs,h1,h2,rfl⟩:=hb;have g0:∀ {b r},o b=some r->r ≠ .counts->r ≠ .store->b≠g:=fun hb hr g1 e=>by subst e;rcases hg with hg|hg<;>rw[hb] at hg<;>cases hg<;>contradiction
 exact⟨h.own,h.ownl,h1,(hk _ (g0 h.ownl (by simp) (by simp))).trans h.lev,h.vars.keep (fun b hb=>hk _ (g0 hb (by simp) (by simp))) (fun _ h=>h),h.level.keep (fun b hb=>hk _ (g0 hb (by simp) (by simp))) (fun _ h=>h),
  h.pool.keep (fun b r hb hr=>hk _ (g0 hb (by rcases hr with rfl|rfl|rfl|rfl<;>simp) (by rcases hr with rfl|rfl|rfl|rfl<;>simp))) (fun _ _ h=>h),
  h.tabs.keep (fun b hb=>hk _ (g0 hb (by simp) (by simp))) (fun _ h=>h),
  fun v hv=>(h.tab v hv).keep (fun b r hb hr=>hk _ (g0 hb (by rcases hr with rfl|rfl<;>simp) (by rcases hr with rfl|rfl<;>simp))) (fun _ _ h=>h),h2,h.len,h.tlen⟩
theorem Ao.setCount (h:Ao o w sb d s){gc:Nat}(hv:s.vc=.slice (some ⟨gc,0,none⟩) d.counts.length cap)(hne:gc≠sb)(x v:Nat):Ao o (w.setCell ⟨gc,x,none⟩ (.int .i64 v)) sb (d.cd (d.counts.set x v) d.dead) s:=by
 have hr:=h.counts;rw[hv] at hr;refine h.keepBut (g:=gc) (.inl hr.owner) (fun k hk=>Aw hk _) ⟨d.dead,_,(Aw (X1 hne) _).trans h.blk,?_,rfl⟩;have:=hr.stored x (.int .i64 v);rw[hv,Xi,Yv];exact this
theorem Ao.setDead (h:Ao o w sb d s)(hlt:Ab o w)(dd:Nat):Ao o (w.setCell ⟨sb,4,none⟩ (.int .i64 dd)) sb (d.cd d.counts dd) s:=by
 refine h.keepBut (g:=sb) (.inr h.own) (fun k hk=>Aw hk _) ⟨dd,d.counts,?_,?_,rfl⟩
 . exact Az (k:=4) h.blk _
 . exact h.counts.keep (fun b hb=>Aw (fun e=>by have e':b=sb:=e;subst e';rw[h.own] at hb;cases hb) _) (fun _ h=>h)
end
theorem Es {fn:Func}(h:fn.results=#[])(tmps:Array Value)(P:Program)(w:Wd):(results fn tmps).run P w=.ok (.tuple #[]) w:=by simp[results,h]
def B5 (o:Own)(w:Wd)(sb:Nat)(d:Ae)(s:B9)(rk:Nat->Nat)(m:Nat)(less:Bool)(ext':Nat->Int)(e:Ending)(w':Wd):Prop :=
 ∃ cs dd,e=.returned (.tuple #[])/\Ao o w' sb (d.cd cs dd) s/\A7 (d.cd cs dd) ext'/\cs.length=d.counts.length/\(∀ i,m<=rk i->cs.getD i 0=d.counts.getD i 0)/\(less=true->∀ i,cs.getD i 0<=d.counts.getD i 0)/\Chg RCnt o o w w'
structure EY (o:Own)(w:Wd)(sb:Nat)(d:Ae)(s:B9)(rk:Nat->Nat)(ext:Nat->Int)(f:Nat)(m:Nat):Prop where
 st:Ao o w sb d s
 lt:Ab o w
 acy:Acy (Aa d) rk
 ok:okE (Aa d) f
 live:A7 d ext
 top:∀ y b,Aa d y=some b->ext y+toE f y<=1099511627776
 low:f/2=0\/rk (f/2)<m
structure EZ (o:Own)(w:Wd)(sb:Nat)(d:Ae)(s:B9)(rk:Nat->Nat)(ext:Nat->Int)(f:Nat)(m:Nat):Prop where
 st:Ao o w sb d s
 lt:Ab o w
 acy:Acy (Aa d) rk
 ok:okE (Aa d) f
 live:A7 d ext
 top:∀ y b,Aa d y=some b->Aj d y<=2199023255552
 pos:∀ y b,Aa d y=some b->0<=ext y-toE f y
 low:f/2=0\/rk (f/2)<m
theorem Ao.tk_lt {o:Own}{w:Wd}{sb:Nat}{d:Ae}{s:B9}(h:Ao o w sb d s){i:Nat}{b:BN}(hi:Aa d i=some b):0<i/\i<d.pool.at_.length/\d.pool.at_.length<=1048577:=by
 have h1:=h.pool.tk_lt (BA hi).1;have h2:=h.pool.top;have h3:=h.pool.room;omega
theorem Ao.edge_lt {o:Own}(h:Ao o w sb d s)(hf:okE (Aa d) f):f<2097156:=by
 rcases hf with h0|⟨b,hb⟩
 . omega
 . have:=h.tk_lt hb;omega
theorem KB {ext:Nat->Int}:addE ext f 1=bump ext (f/2) 1:=by
 funext y;unfold addE bump toE
 by_cases e:f/2=y
 . subst e;simp
 . simp[e,X1 e]
theorem KC {ext:Nat->Int}:addE ext f (-1)=bump ext (f/2) (-1):=by
 funext y;unfold addE bump toE
 by_cases e:f/2=y
 . subst e;simp
 . simp[e,X1 e]
theorem PE {o:Own}{ext:Nat->Int}{m:Nat}(h:EY o w sb d s rk ext f m){b:BN}(hx:Aa d (enode f)=some b)(hc:0<Aj d (enode f)) :
 Calls prog 163 #[Pt sb,.int .i64 f] w (B5 o w sb d s rk m false (addE ext f 1)):=by
 have gj:=h.st.edge_lt h.ok;have hf:f<eMax:=by unfold eMax;omega
 have g5:=h.live.has _ _ hx;obtain⟨gc,cap,hv,ga,g9,gh,ge,gb,g4⟩:=h.st.countsAt g5;obtain⟨c0,c1,c2,c3,c4,f0⟩:=cells5 h.st.blk;rw[hv] at c3;have gd:=g4 _ g5;have gi:=gb (enode f);have gq:=h.live.cnt.le hx;have g6:=h.top _ _ hx;rw[show toE f (enode f)=1 from Em f] at g6;have gk:=h.st.tk_lt hx;have g8:=h.st.tk_lt hx;have g3:Hq (∀ i,m<=rk i->(d.counts.set (enode f) (Aj d (enode f)+1)).getD i 0=d.counts.getD i 0):=fun i hi=>by
  have:enode f≠i:=by
   rintro rfl;rcases h.low with h0|h0
   . have:enode f=0:=h0;omega
   . have e:f/2=enode f:=rfl;rw[e] at h0;omega
  simp only[List.getD,Xv,WO this]
 have g7:Hq (false=true->∀ i,(d.counts.set (enode f) (Aj d (enode f)+1)).getD i 0<=d.counts.getD i 0):=fun e=>(by cases e)
 have g0:Hq (Ao o (w.setCell ⟨gc,enode f,none⟩ (.int .i64 ((Aj d (enode f)+1:Nat):Int))) sb (d.cd (d.counts.set (enode f) (Aj d (enode f)+1)) d.dead) s/\A7 (d.cd (d.counts.set (enode f) (Aj d (enode f)+1)) d.dead) (addE ext f 1)) :=
  ⟨h.st.setCount hv g9 _ _,by rw[KB];exact h.live.moreLive hx hc⟩
 have g1:=Hd ((Chg.refl RCnt o w).setCell (p:=⟨gc,enode f,none⟩) ga (.inr rfl) (.int .i64 ((Aj d (enode f)+1:Nat):Int)));rw[show ((Aj d (enode f)+1:Nat):Int)=(Aj d (enode f):Nat)+1 from by omega] at g0 g1;have g2:((enode f:Nat):Int)≠0:=by have:=g8.1;omega
 have HN:=Hd (fun W=>B7 f W hf);have gl:sb≠gc:=fun e=>g9 e.symm
 have gg:((enode f:Nat):Int)<d.counts.length:=by omega
 obtain⟨k,hk⟩:=Ex (enode f);obtain⟨c,gf⟩:=Ex (Aj d (enode f));have gn:c<=2199023255552:=by omega
 have gs:0<c:=by omega
 rw[<- gf] at gd g0 g1 g3 g7;rw[<- hk] at gd gi g0 g1 g2 HN gg g3 g7;have gp:((k:Int) == 0)=false:=by simpa using g2
 have go:0<k:=by omega
 have gm:d.counts.length<=9223372036854775807:=by unfold maxLen at ge;omega
 have gr:(1:Int)<(c:Int)+1:=by omega
 clear h hx hc hv ga gh ge gb g4 hk gf g6 g8 g2 g5 gj hf
 delta Pt;go_enter func163,ntmps163
 go_wp2_with fail;refine(HN.o _).mono ?_;rintro x w' ⟨rfl,rfl⟩;go_wp2_with fail;refine Xc (Es rfl _ _ _) rfl ⟨_,_,rfl,g0.o.1,g0.o.2,by simp,g3.o,(fun e=>by first|exact absurd e (by decide)|exact g7.o (by simp)),g1.o⟩
theorem PF {o:Own}{ext:Nat->Int}{m:Nat}(h:EY o w sb d s rk ext f m)(hx:enode f=0) :
 Calls prog 163 #[Pt sb,.int .i64 f] w (B5 o w sb d s rk m false (addE ext f 1)):=by
 have hf:f<eMax:=by have:=h.st.edge_lt h.ok;unfold eMax;omega
 have g0:Hq (B5 o w sb d s rk m false (addE ext f 1) (.returned (.tuple #[])) w) :=
  ⟨d.counts,d.dead,rfl,h.st,h.live.congr (fun y b hb=>by
   have:y≠0:=by rintro rfl;rw[h.acy.none0] at hb;cases hb
   have e:f/2=0:=hx;simp[addE,toE,e,X1 this]),rfl,fun _ _=>rfl,fun _ _=>WM _,Chg.refl _ _ _⟩
 have HN:=Hd (fun W=>B7 f W hf);rw[hx] at HN;clear h hx hf
 delta Pt;go_enter func163,ntmps163
 go_wp2_with fail;refine(HN.o _).mono ?_;rintro x w' ⟨rfl,rfl⟩;go_wp2_with fail;refine Xc (Es rfl _ _ _) rfl g0.o
theorem PG {o:Own}{ext:Nat->Int}{m:Nat}(h:EY o w sb d s rk ext f (m+1)){b:BN}(hx:Aa d (enode f)=some b)(hc:Aj d (enode f)=0)
 (ih:∀ w d ext f,EY o w sb d s rk ext f m->Calls prog 163 #[Pt sb,.int .i64 f] w (B5 o w sb d s rk m false (addE ext f 1))) :
 Calls prog 163 #[Pt sb,.int .i64 f] w (B5 o w sb d s rk (m+1) false (addE ext f 1)):=by
 have gR:=h.st.edge_lt h.ok;have hf:f<eMax:=by unfold eMax;omega
 have gb:=h.live.has _ _ hx;obtain⟨gc,cap,hv,gs,gf,gN,gz,gt,g5⟩:=h.st.countsAt gb;obtain⟨c0,c1,c2,c3,c4,f0⟩:=cells5 h.st.blk;rw[hv] at c3;have gg:=g5 _ gb;have gu:=gt (enode f);have gp:=h.st.tk_lt hx;obtain⟨gw,gq⟩:=h.live.moreDead hx hc;have gy:d.dead<=1048577:=by
  have h1:=h.live.dead;have h2:=EX (f:=dead1 (Aa d) (Aj d)) (B:=1) d.pool.at_.length (fun i _=>by unfold dead1;split<;>first|omega|(split<;>omega));have h3:AW d.pool.at_.length (Aa d) (Aj d)=Ah d.pool.at_.length (dead1 (Aa d) (Aj d)):=rfl;omega
 have gU:=Hd h.lt;have gm:∀ i,m+1<=rk i->(d.counts.set (enode f) 1).getD i 0=d.counts.getD i 0:=fun i hi=>by
  have:enode f≠i:=by
   rintro rfl;rcases h.low with h0|h0
   . have:enode f=0:=h0;omega
   . have e:f/2=enode f:=rfl;rw[e] at h0;omega
  simp only[List.getD,Xv,WO this]
 have gB:false=true->∀ i,(d.counts.set (enode f) 1).getD i 0<=d.counts.getD i 0:=fun e=>(by cases e)
 have gL:rk (enode f)<=m:=by
  rcases h.low with h0|h0
  . have:enode f=0:=h0;omega
  . have e:f/2=enode f:=rfl;rw[e] at h0;omega
 have g3:∀ e,(okE (Aa d) e)->(∀ c,Aa d (e/2)=some c->rk (e/2)<rk (enode f))->e/2=0\/rk (e/2)<m:=fun e ho hr=>by
  rcases ho with h0|⟨c,hc⟩
  . exact .inl h0
  . exact .inr (by have:=hr c hc;omega)
 have st1:Ao o (w.setCell ⟨gc,enode f,none⟩ (.int .i64 ((1:Nat):Int))) sb (d.cd (d.counts.set (enode f) 1) d.dead) s:=h.st.setCount hv gf _ _;have g2:Ab o (w.setCell ⟨gc,enode f,none⟩ (.int .i64 ((1:Nat):Int))):=h.lt.mono (by simp[World.setCell]);have st2:Ao o ((w.setCell ⟨gc,enode f,none⟩ (.int .i64 ((1:Nat):Int))).setCell ⟨sb,4,none⟩ (.int .i64 ((d.dead-1:Nat):Int))) sb (d.cd (d.counts.set (enode f) 1) (d.dead-1)) s:=st1.setDead g2 _;have gn:=Hd (((Chg.refl RCnt o w).setCell (p:=⟨gc,enode f,none⟩) gs (.inr rfl) (.int .i64 ((1:Nat):Int))).setCell (p:=⟨sb,4,none⟩) h.st.own (.inl rfl) (.int .i64 ((d.dead-1:Nat):Int)));have g0:Ab o ((w.setCell ⟨gc,enode f,none⟩ (.int .i64 ((1:Nat):Int))).setCell ⟨sb,4,none⟩ (.int .i64 ((d.dead-1:Nat):Int))):=g2.mono (by simp[World.setCell]);have ge:=BA hx;have gS:∃ N,N=d.pool.has (enode f)/\N.lo=b.lo/\N.hi=b.hi:=⟨_,rfl,by rw[<- ge.2.2];rfl,by rw[<- ge.2.2];rfl⟩;have gv:addE (addE (addE (addE (bump ext (enode f) 1) b.lo (-1)) b.hi (-1)) b.lo 1) b.hi 1=addE ext f 1:=by
  funext y;have h1:=congrFun (KB (ext:=ext) (f:=f)) y;have h2:enode f=f/2:=rfl;rw[h2,h1];simp only[addE];omega
 obtain⟨W2,gj⟩:∃ W,W=(w.setCell ⟨gc,enode f,none⟩ (.int .i64 ((1:Nat):Int))).setCell ⟨sb,4,none⟩ (.int .i64 ((d.dead-1:Nat):Int)):=⟨_,rfl⟩;rw[<- gj] at st2 gn g0;have gI:=Hd g0;have g1:Hq (∀ W:Wd,Bw W2 W->Calls prog 160 #[Pt s.pb,.int .i64 (enode f:Nat)] W (Bl (.tuple #[Am (d.pool.has (enode f)),.bool (d.pool.tk (enode f))]) W)) :=
  Hd (fun W hb=>Dh o s.pb d.pool (enode f) W (st2.pool.below hb g0) (g0.mono hb.size))
 have gY:Hq (∀ W:Wd,Bw W2 W->W.cell? ⟨sb,1,none⟩=some (.pointer (some ⟨s.pb,0,none⟩))):=Hd (fun W hb=>(cells5 (st2.below g0 hb).blk).2.1);have gA:Hq (∀ W:Wd,Bw W2 W->Calls prog 163 #[Pt sb,.int .i64 (b.lo:Nat)] W (B5 o W sb (d.cd (d.counts.set (enode f) 1) (d.dead-1)) s rk m false (addE (addE (addE (bump ext (enode f) 1) b.lo (-1)) b.hi (-1)) b.lo 1))) :=
  Hd (fun W hb=>ih W _ _ b.lo ⟨st2.below g0 hb,g0.mono hb.size,h.acy,h.acy.okLo _ _ hx,gq,fun y q hq=>by
   have h1:=h.top y q hq;have h2:toE f y=if enode f=y then 1 else 0:=rfl
   have h3:=Cv b.lo y;have h4:=Cv b.hi y;simp only[addE,bump]
   by_cases e:y=enode f
   . rw[WR e.symm] at h2;rw[WR e];omega
   . rw[WO (X1 e)] at h2;rw[WO e];omega,g3 b.lo (h.acy.okLo _ _ hx) (fun c hc=>h.acy.ltLo _ _ c hx hc)⟩)
 have gD:Hq (∀ (W:Wd) (cs:List Nat) (dd:Nat),Ao o W sb ((d.cd (d.counts.set (enode f) 1) (d.dead-1)).cd cs dd) s->A7 ((d.cd (d.counts.set (enode f) 1) (d.dead-1)).cd cs dd) (addE (addE (addE (bump ext (enode f) 1) b.lo (-1)) b.hi (-1)) b.lo 1)->(false=true->∀ i,cs.getD i 0<=(d.counts.set (enode f) 1).getD i 0)->Chg RCnt o o w W ->
  Calls prog 163 #[Pt sb,.int .i64 (b.hi:Nat)] W (B5 o W sb ((d.cd (d.counts.set (enode f) 1) (d.dead-1)).cd cs dd) s rk m false (addE ext f 1))) :=
  Hd (fun W cs dd hs hl gr gh=>by
   rw[<- gv]
   exact ih W _ _ b.hi ⟨hs,gU.o.mono gh.size,h.acy,h.acy.okHi _ _ hx,hl,fun y q hq=>by
    have h1:=h.top y q hq;have h2:toE f y=if enode f=y then 1 else 0:=rfl
    have h3:=Cv b.lo y;have h4:=Cv b.hi y;simp only[addE,bump]
    by_cases e:y=enode f
    . rw[WR e.symm] at h2;rw[WR e];omega
    . rw[WO (X1 e)] at h2;rw[WO e];omega,g3 b.hi (h.acy.okHi _ _ hx) (fun c hc=>h.acy.ltHi _ _ c hx hc)⟩)
 have gK:Hq (∀ (W:Wd) (cs:List Nat) (dd:Nat),Ao o W sb (d.cd cs dd) s->A7 (d.cd cs dd) (addE ext f 1)->cs.length=(d.counts.set (enode f) 1).length->(∀ i,m+1<=rk i->cs.getD i 0=(d.counts.set (enode f) 1).getD i 0)->(false=true->∀ i,cs.getD i 0<=(d.counts.set (enode f) 1).getD i 0)->Chg RCnt o o w W ->
  B5 o w sb d s rk (m+1) false (addE ext f 1) (.returned (.tuple #[])) W) :=
  fun W cs dd hs hl gG gM gr gh=>⟨cs,dd,rfl,hs,hl,by rw[gG];simp,fun i hi=>(gM i hi).trans (gm i hi),fun e i=>WU (gr e i) (gB e i),gh⟩
 have g9:Hq (W2=(w.setCell ⟨gc,enode f,none⟩ (.int .i64 1)).setCell ⟨sb,4,none⟩ (.int .i64 ((d.dead:Int)-1))):=by
  show _=_
  rw[gj,show ((d.dead-1:Nat):Int)=(d.dead:Int)-1 from by omega];rfl
 have g4:((enode f:Nat):Int)≠0:=by have:=gp.1;omega
 have HN:=Hd (fun W=>B7 f W hf);have gF:sb≠gc:=fun e=>gf e.symm
 have ga:((enode f:Nat):Int)<d.counts.length:=by omega
 obtain⟨N,hN,gk,gl⟩:=gS;rw[<- hN] at g1;rw[<- gk,<- gl] at gA gD;obtain⟨B,hB⟩:=Ex (d.pool.tk (enode f));rw[<- hB] at g1;rw[hc] at gg;obtain⟨k,hk⟩:=Ex (enode f);rw[<- hk] at gg gu g1 g4 HN ga g9;have gP:((k:Int) == 0)=false:=by simpa using g4
 have gO:0<k:=by omega
 have gH:d.counts.length<=9223372036854775807:=by unfold maxLen at gz;omega
 obtain⟨dn,gx⟩:∃ n,n=d.dead:=⟨_,rfl⟩;rw[<- gx] at c4 gy g9 gw;clear ih h hx hc hv gs gN gz gt g5 gp g4 gb gR hf gq st1 st2 g2 g0 gm gB gL g3 gj gv hN gk gl hB gx ge hk
 delta Pt;go_enter func163,ntmps163
 go_wp2_with fail;refine(HN.o _).mono ?_;rintro x w' ⟨rfl,rfl⟩;go_wp2_with fail;rw[<- g9.o];refine(g1.o W2 (Xd _ _)).mono ?_;rintro x v2 ⟨rfl,g7⟩;unfold Am;clear g9 c0 c1 c2 c3 c4 f0 gg gu HN gf gF ga gP gO gH gy gw;go_wp2_with fail;obtain⟨W3,g8⟩:∃ W,W=v2.alloc (.cells #[.int .i64 N.id,.int .i64 N.v,.int .i64 N.lo,.int .i64 N.hi,.int .i64 N.refs] 236):=⟨_,rfl⟩;obtain⟨bx,g6⟩:=Ex v2.heap.size;have gQ:W2.heap.size<=bx:=by rw[g6];exact g7.size
 have gi:Bw W2 W3:=by rw[g8];exact g7.alloc g7.size _
 have gd:W3.heap[bx]?=some (.cells #[.int .i64 N.id,.int .i64 N.v,.int .i64 N.lo,.int .i64 N.hi,.int .i64 N.refs] 236 (0,0)):=by rw[g8,g6];exact WN v2 _
 rw[<- g8];rw[<- g6];clear g8 g6 g7 g1 gY;refine(gA.o _ gi).mono ?_;rintro x w1 ⟨cs1,dd1,rfl,st1,lv1,len1,low1,le1,chg1⟩;have go:=(chg1.alien (WL.1 gd).1 (gI.o.none gQ)).trans gd;obtain⟨z0,z1,z2,z3,z4,zz⟩:=cells5 go;have gT:=Hd st1;have gV:=Hd lv1;have gX:=Hd len1;have HW1:=Hd low1;have gC:=Hd le1;have gE:=Hd ((gn.o.trans (Chg.of_below gi RCnt o)).trans chg1);clear st1 lv1 len1 low1 le1 chg1 gd go gi;go_wp2_with fail;refine(gD.o w1 cs1 dd1 gT.o gV.o (fun e=>by first|exact absurd e (by decide)|exact gC.o (by simp)) gE.o).mono ?_;rintro x w2 ⟨cs2,dd2,rfl,st2,lv2,len2,low2,le2,chg2⟩;have gJ:=Hd (gK.o w2 cs2 dd2 st2 lv2 (len2.trans gX.o) (fun i hi=>(low2 i (by omega)).trans (HW1.o i (by omega))) (fun e i=>by first|exact absurd e (by decide)|exact WU (le2 (by simp) i) (gC.o (by simp) i)) (gE.o.trans chg2));clear st2 lv2 len2 low2 le2 chg2;go_wp2_with fail;refine Yr (Es rfl _ _ _) rfl gJ.o
theorem Iy (o:Own)(sb:Nat)(s:B9)(rk:Nat->Nat):∀ (m:Nat) (w:Wd) (d:Ae) (ext:Nat->Int) (f:Nat),EY o w sb d s rk ext f m ->
 Calls prog 163 #[Pt sb,.int .i64 f] w (B5 o w sb d s rk m false (addE ext f 1))
 | m,w,d,ext,f,h=>by
   by_cases h0:enode f=0
   . exact PF h h0
   ·obtain⟨b,hx⟩:∃ b,Aa d (enode f)=some b:=h.ok.resolve_left h0
    by_cases hc:0<Aj d (enode f)
    . exact PE h hx hc
    ·cases m with
     | zero=>exact absurd (h.low.resolve_left h0) (by omega)
     | succ m=>exact PG h hx (by omega) (Iy o sb s rk m)
theorem PH {o:Own}{ext:Nat->Int}{m:Nat}(h:EZ o w sb d s rk ext f m){b:BN}(hx:Aa d (enode f)=some b)(hc:1<Aj d (enode f)) :
 Calls prog 162 #[Pt sb,.int .i64 f] w (B5 o w sb d s rk m true (addE ext f (-1))):=by
 have gj:=h.st.edge_lt h.ok;have hf:f<eMax:=by unfold eMax;omega
 have g4:=h.live.has _ _ hx;obtain⟨gc,cap,hv,g9,g8,gh,gd,ga,g5⟩:=h.st.countsAt g4;obtain⟨c0,c1,c2,c3,c4,f0⟩:=cells5 h.st.blk;rw[hv] at c3;have gb:=g5 _ g4;have gi:=ga (enode f);have gg:=h.top (enode f) _ hx;have g7:=h.st.tk_lt hx;have g3:Hq (∀ i,m<=rk i->(d.counts.set (enode f) (Aj d (enode f)-1)).getD i 0=d.counts.getD i 0):=fun i hi=>by
  have:enode f≠i:=by
   rintro rfl;rcases h.low with h0|h0
   . have:enode f=0:=h0;omega
   . have e:f/2=enode f:=rfl;rw[e] at h0;omega
  simp only[List.getD,Xv,WO this]
 have g6:Hq (true=true->∀ i,(d.counts.set (enode f) (Aj d (enode f)-1)).getD i 0<=d.counts.getD i 0):=fun _ i=>by
  by_cases e:enode f=i
  . subst e;simp only[List.getD,Xv];simp[g4,Aj,List.getD]
  . simp only[List.getD,Xv,WO e];omega
 have g0:Hq (Ao o (w.setCell ⟨gc,enode f,none⟩ (.int .i64 ((Aj d (enode f)-1:Nat):Int))) sb (d.cd (d.counts.set (enode f) (Aj d (enode f)-1)) d.dead) s/\A7 (d.cd (d.counts.set (enode f) (Aj d (enode f)-1)) d.dead) (addE ext f (-1))) :=
  ⟨h.st.setCount hv g8 _ _,by rw[KC];exact h.live.lessLive hx hc⟩
 have g1:=Hd ((Chg.refl RCnt o w).setCell (p:=⟨gc,enode f,none⟩) g9 (.inr rfl) (.int .i64 ((Aj d (enode f)-1:Nat):Int)));rw[show ((Aj d (enode f)-1:Nat):Int)=(Aj d (enode f):Nat)-1 from by omega] at g0 g1;have g2:((enode f:Nat):Int)≠0:=by have:=g7.1;omega
 have HN:=Hd (fun W=>B7 f W hf);have gk:sb≠gc:=fun e=>g8 e.symm
 have gf:((enode f:Nat):Int)<d.counts.length:=by omega
 obtain⟨k,hk⟩:=Ex (enode f);obtain⟨c,ge⟩:=Ex (Aj d (enode f));have gm:c<=2199023255552:=by omega
 have gq:1<c:=by omega
 rw[<- ge] at gb g0 g1 g3 g6;rw[<- hk] at gb gi g0 g1 g2 HN gf g3 g6;have go:((k:Int) == 0)=false:=by simpa using g2
 have gn:0<k:=by omega
 have gl:d.counts.length<=9223372036854775807:=by unfold maxLen at gd;omega
 have gp:(1:Int)<(c:Int):=by omega
 clear h hx hc hv g9 gh gd ga g5 hk ge gg g7 g2 g4 gj hf
 delta Pt;go_enter func162,ntmps162
 go_wp2_with fail;refine(HN.o _).mono ?_;rintro x w' ⟨rfl,rfl⟩;go_wp2_with fail;refine Xc (Es rfl _ _ _) rfl ⟨_,_,rfl,g0.o.1,g0.o.2,by simp,g3.o,(fun e=>by first|exact absurd e (by decide)|exact g6.o (by simp)),g1.o⟩
theorem PI {o:Own}{ext:Nat->Int}{m:Nat}(h:EZ o w sb d s rk ext f m)(hx:enode f=0) :
 Calls prog 162 #[Pt sb,.int .i64 f] w (B5 o w sb d s rk m true (addE ext f (-1))):=by
 have hf:f<eMax:=by have:=h.st.edge_lt h.ok;unfold eMax;omega
 have g0:Hq (B5 o w sb d s rk m true (addE ext f (-1)) (.returned (.tuple #[])) w) :=
  ⟨d.counts,d.dead,rfl,h.st,h.live.congr (fun y b hb=>by
   have:y≠0:=by rintro rfl;rw[h.acy.none0] at hb;cases hb
   have e:f/2=0:=hx;simp[addE,toE,e,X1 this]),rfl,fun _ _=>rfl,fun _ _=>WM _,Chg.refl _ _ _⟩
 have HN:=Hd (fun W=>B7 f W hf);rw[hx] at HN;clear h hx hf
 delta Pt;go_enter func162,ntmps162
 go_wp2_with fail;refine(HN.o _).mono ?_;rintro x w' ⟨rfl,rfl⟩;go_wp2_with fail;refine Xc (Es rfl _ _ _) rfl g0.o
theorem PJ {o:Own}{ext:Nat->Int}{m:Nat}(h:EZ o w sb d s rk ext f (m+1)){b:BN}(hx:Aa d (enode f)=some b)(hc:Aj d (enode f)=1)
 (ih:∀ w d ext f,EZ o w sb d s rk ext f m->Calls prog 162 #[Pt sb,.int .i64 f] w (B5 o w sb d s rk m true (addE ext f (-1)))) :
 Calls prog 162 #[Pt sb,.int .i64 f] w (B5 o w sb d s rk (m+1) true (addE ext f (-1))):=by
 have gQ:=h.st.edge_lt h.ok;have hf:f<eMax:=by unfold eMax;omega
 have g5:=h.live.has _ _ hx;obtain⟨gc,cap,hv,gt,gg,gM,gz,gu,g6⟩:=h.st.countsAt g5;obtain⟨c0,c1,c2,c3,c4,f0⟩:=cells5 h.st.blk;rw[hv] at c3;have gi:=g6 _ g5;have gv:=gu (enode f);have gr:=h.st.tk_lt hx;have gs:=h.live.lessDies hx hc;have gy:d.dead<=1048577:=by
  have h1:=h.live.dead;have h2:=EX (f:=dead1 (Aa d) (Aj d)) (B:=1) d.pool.at_.length (fun i _=>by unfold dead1;split<;>first|omega|(split<;>omega));have h3:AW d.pool.at_.length (Aa d) (Aj d)=Ah d.pool.at_.length (dead1 (Aa d) (Aj d)):=rfl;omega
 have gT:=Hd h.lt;have go:∀ i,m+1<=rk i->(d.counts.set (enode f) 0).getD i 0=d.counts.getD i 0:=fun i hi=>by
  have:enode f≠i:=by
   rintro rfl;rcases h.low with h0|h0
   . have:enode f=0:=h0;omega
   . have e:f/2=enode f:=rfl;rw[e] at h0;omega
  simp only[List.getD,Xv,WO this]
 have gb:true=true->∀ i,(d.counts.set (enode f) 0).getD i 0<=d.counts.getD i 0:=fun _ i=>by
  by_cases e:enode f=i
  . subst e;simp only[List.getD,Xv];simp[g5]
  . simp only[List.getD,Xv,WO e];omega
 have gK:rk (enode f)<=m:=by
  rcases h.low with h0|h0
  . have:enode f=0:=h0;omega
  . have e:f/2=enode f:=rfl;rw[e] at h0;omega
 have g3:∀ e,(okE (Aa d) e)->(∀ c,Aa d (e/2)=some c->rk (e/2)<rk (enode f))->e/2=0\/rk (e/2)<m:=fun e ho hr=>by
  rcases ho with h0|⟨c,hc⟩
  . exact .inl h0
  . exact .inr (by have:=hr c hc;omega)
 have st1:Ao o (w.setCell ⟨gc,enode f,none⟩ (.int .i64 ((0:Nat):Int))) sb (d.cd (d.counts.set (enode f) 0) d.dead) s:=h.st.setCount hv gg _ _;have g2:Ab o (w.setCell ⟨gc,enode f,none⟩ (.int .i64 ((0:Nat):Int))):=h.lt.mono (by simp[World.setCell]);have st2:Ao o ((w.setCell ⟨gc,enode f,none⟩ (.int .i64 ((0:Nat):Int))).setCell ⟨sb,4,none⟩ (.int .i64 ((d.dead+1:Nat):Int))) sb (d.cd (d.counts.set (enode f) 0) (d.dead+1)) s:=st1.setDead g2 _;have gp:=Hd (((Chg.refl RCnt o w).setCell (p:=⟨gc,enode f,none⟩) gt (.inr rfl) (.int .i64 ((0:Nat):Int))).setCell (p:=⟨sb,4,none⟩) h.st.own (.inl rfl) (.int .i64 ((d.dead+1:Nat):Int)));have g0:Ab o ((w.setCell ⟨gc,enode f,none⟩ (.int .i64 ((0:Nat):Int))).setCell ⟨sb,4,none⟩ (.int .i64 ((d.dead+1:Nat):Int))):=g2.mono (by simp[World.setCell]);have gf:=BA hx;have gR:∃ N,N=d.pool.has (enode f)/\N.lo=b.lo/\N.hi=b.hi:=⟨_,rfl,by rw[<- gf.2.2];rfl,by rw[<- gf.2.2];rfl⟩;have gw:addE (addE (addE (addE (bump ext (enode f) (-1)) b.lo 1) b.hi 1) b.lo (-1)) b.hi (-1)=addE ext f (-1):=by
  funext y;have h1:=congrFun (KC (ext:=ext) (f:=f)) y;have h2:enode f=f/2:=rfl;rw[h2,h1];simp only[addE];omega
 obtain⟨W2,gl⟩:∃ W,W=(w.setCell ⟨gc,enode f,none⟩ (.int .i64 ((0:Nat):Int))).setCell ⟨sb,4,none⟩ (.int .i64 ((d.dead+1:Nat):Int)):=⟨_,rfl⟩;rw[<- gl] at st2 gp g0;have gH:=Hd g0;have g1:Hq (∀ W:Wd,Bw W2 W->Calls prog 160 #[Pt s.pb,.int .i64 (enode f:Nat)] W (Bl (.tuple #[Am (d.pool.has (enode f)),.bool (d.pool.tk (enode f))]) W)) :=
  Hd (fun W hb=>Dh o s.pb d.pool (enode f) W (st2.pool.below hb g0) (g0.mono hb.size))
 have gX:Hq (∀ W:Wd,Bw W2 W->W.cell? ⟨sb,1,none⟩=some (.pointer (some ⟨s.pb,0,none⟩))):=Hd (fun W hb=>(cells5 (st2.below g0 hb).blk).2.1);have gA:Hq (∀ W:Wd,Bw W2 W->Calls prog 162 #[Pt sb,.int .i64 (b.lo:Nat)] W (B5 o W sb (d.cd (d.counts.set (enode f) 0) (d.dead+1)) s rk m true (addE (addE (addE (bump ext (enode f) (-1)) b.lo 1) b.hi 1) b.lo (-1)))) :=
  Hd (fun W hb=>ih W _ _ b.lo ⟨st2.below g0 hb,g0.mono hb.size,h.acy,h.acy.okLo _ _ hx,gs,fun y q hq=>WU (gb rfl y) (h.top y q hq),fun y q hq=>by
   have h1:=h.pos y q hq;have h2:toE f y=if enode f=y then 1 else 0:=rfl
   have h3:=Cv b.lo y;have h4:=Cv b.hi y;simp only[addE,bump]
   by_cases e:y=enode f
   . rw[WR e.symm] at h2;rw[WR e];omega
   . rw[WO (X1 e)] at h2;rw[WO e];omega,g3 b.lo (h.acy.okLo _ _ hx) (fun c hc=>h.acy.ltLo _ _ c hx hc)⟩)
 have gC:Hq (∀ (W:Wd) (cs:List Nat) (dd:Nat),Ao o W sb ((d.cd (d.counts.set (enode f) 0) (d.dead+1)).cd cs dd) s->A7 ((d.cd (d.counts.set (enode f) 0) (d.dead+1)).cd cs dd) (addE (addE (addE (bump ext (enode f) (-1)) b.lo 1) b.hi 1) b.lo (-1))->(true=true->∀ i,cs.getD i 0<=(d.counts.set (enode f) 0).getD i 0)->Chg RCnt o o w W ->
  Calls prog 162 #[Pt sb,.int .i64 (b.hi:Nat)] W (B5 o W sb ((d.cd (d.counts.set (enode f) 0) (d.dead+1)).cd cs dd) s rk m true (addE ext f (-1)))) :=
  Hd (fun W cs dd hs hl gh gj=>by
   rw[<- gw]
   exact ih W _ _ b.hi ⟨hs,gT.o.mono gj.size,h.acy,h.acy.okHi _ _ hx,hl,fun y q hq=>WU (WU (gh rfl y) (gb rfl y)) (h.top y q hq),fun y q hq=>by
    have h1:=h.pos y q hq;have h2:toE f y=if enode f=y then 1 else 0:=rfl
    have h3:=Cv b.lo y;have h4:=Cv b.hi y;simp only[addE,bump]
    by_cases e:y=enode f
    . rw[WR e.symm] at h2;rw[WR e];omega
    . rw[WO (X1 e)] at h2;rw[WO e];omega,g3 b.hi (h.acy.okHi _ _ hx) (fun c hc=>h.acy.ltHi _ _ c hx hc)⟩)
 have gJ:Hq (∀ (W:Wd) (cs:List Nat) (dd:Nat),Ao o W sb (d.cd cs dd) s->A7 (d.cd cs dd) (addE ext f (-1))->cs.length=(d.counts.set (enode f) 0).length->(∀ i,m+1<=rk i->cs.getD i 0=(d.counts.set (enode f) 0).getD i 0)->(true=true->∀ i,cs.getD i 0<=(d.counts.set (enode f) 0).getD i 0)->Chg RCnt o o w W ->
  B5 o w sb d s rk (m+1) true (addE ext f (-1)) (.returned (.tuple #[])) W) :=
  fun W cs dd hs hl gF gL gh gj=>⟨cs,dd,rfl,hs,hl,by rw[gF];simp,fun i hi=>(gL i hi).trans (go i hi),fun e i=>WU (gh e i) (gb e i),gj⟩
 have ga:Hq (W2=(w.setCell ⟨gc,enode f,none⟩ (.int .i64 0)).setCell ⟨sb,4,none⟩ (.int .i64 ((d.dead:Int)+1))):=by
  show _=_
  rw[gl,show ((d.dead+1:Nat):Int)=(d.dead:Int)+1 from by omega];rfl
 have g4:((enode f:Nat):Int)≠0:=by have:=gr.1;omega
 have HN:=Hd (fun W=>B7 f W hf);have gE:sb≠gc:=fun e=>gg e.symm
 have gd:((enode f:Nat):Int)<d.counts.length:=by omega
 obtain⟨N,hN,gm,gn⟩:=gR;rw[<- hN] at g1;rw[<- gm,<- gn] at gA gC;obtain⟨B,hB⟩:=Ex (d.pool.tk (enode f));rw[<- hB] at g1;rw[hc] at gi;obtain⟨k,hk⟩:=Ex (enode f);rw[<- hk] at gi gv g1 g4 HN gd ga;have gO:((k:Int) == 0)=false:=by simpa using g4
 have gN:0<k:=by omega
 have gG:d.counts.length<=9223372036854775807:=by unfold maxLen at gz;omega
 obtain⟨dn,gx⟩:∃ n,n=d.dead:=⟨_,rfl⟩;rw[<- gx] at c4 gy ga;clear ih h hx hc hv gt gM gz gu g6 gr g4 g5 gQ hf gs st1 st2 g2 g0 go gb gK g3 gl gw hN gm gn hB gx gf hk
 delta Pt;go_enter func162,ntmps162
 go_wp2_with fail;refine(HN.o _).mono ?_;rintro x w' ⟨rfl,rfl⟩;go_wp2_with fail;rw[<- ga.o];refine(g1.o W2 (Xd _ _)).mono ?_;rintro x v2 ⟨rfl,g8⟩;unfold Am;clear ga c0 c1 c2 c3 c4 f0 gi gv HN gg gE gd gO gN gG gy;go_wp2_with fail;obtain⟨W3,g9⟩:∃ W,W=v2.alloc (.cells #[.int .i64 N.id,.int .i64 N.v,.int .i64 N.lo,.int .i64 N.hi,.int .i64 N.refs] 236):=⟨_,rfl⟩;obtain⟨bx,g7⟩:=Ex v2.heap.size;have gP:W2.heap.size<=bx:=by rw[g7];exact g8.size
 have gk:Bw W2 W3:=by rw[g9];exact g8.alloc g8.size _
 have ge:W3.heap[bx]?=some (.cells #[.int .i64 N.id,.int .i64 N.v,.int .i64 N.lo,.int .i64 N.hi,.int .i64 N.refs] 236 (0,0)):=by rw[g9,g7];exact WN v2 _
 rw[<- g9];rw[<- g7];clear g9 g7 g8 g1 gX;refine(gA.o _ gk).mono ?_;rintro x w1 ⟨cs1,dd1,rfl,st1,lv1,len1,low1,le1,chg1⟩;have gq:=(chg1.alien (WL.1 ge).1 (gH.o.none gP)).trans ge;obtain⟨z0,z1,z2,z3,z4,zz⟩:=cells5 gq;have gS:=Hd st1;have gU:=Hd lv1;have gV:=Hd len1;have HW1:=Hd low1;have gB:=Hd le1;have gD:=Hd ((gp.o.trans (Chg.of_below gk RCnt o)).trans chg1);clear st1 lv1 len1 low1 le1 chg1 ge gq gk;go_wp2_with fail;refine(gC.o w1 cs1 dd1 gS.o gU.o (fun e=>by first|exact absurd e (by decide)|exact gB.o (by simp)) gD.o).mono ?_;rintro x w2 ⟨cs2,dd2,rfl,st2,lv2,len2,low2,le2,chg2⟩;have gI:=Hd (gJ.o w2 cs2 dd2 st2 lv2 (len2.trans gV.o) (fun i hi=>(low2 i (by omega)).trans (HW1.o i (by omega))) (fun e i=>by first|exact absurd e (by decide)|exact WU (le2 (by simp) i) (gB.o (by simp) i)) (gD.o.trans chg2));clear st2 lv2 len2 low2 le2 chg2;go_wp2_with fail;refine Yr (Es rfl _ _ _) rfl gI.o
theorem Iz (o:Own)(sb:Nat)(s:B9)(rk:Nat->Nat):∀ (m:Nat) (w:Wd) (d:Ae) (ext:Nat->Int) (f:Nat),EZ o w sb d s rk ext f m ->
 Calls prog 162 #[Pt sb,.int .i64 f] w (B5 o w sb d s rk m true (addE ext f (-1)))
 | m,w,d,ext,f,h=>by
   by_cases h0:enode f=0
   . exact PI h h0
   ·obtain⟨b,hx⟩:∃ b,Aa d (enode f)=some b:=h.ok.resolve_left h0
    have hp:0<Aj d (enode f):=h.live.cnt.pos_of_ext hx (by
     have h1:=h.pos _ _ hx;rw[show toE f (enode f)=1 from Em f] at h1;omega)
    by_cases hc:1<Aj d (enode f)
    . exact PH h hx hc
    ·cases m with
     | zero=>exact absurd (h.low.resolve_left h0) (by omega)
     | succ m=>exact PJ h hx (by omega) (Iz o sb s rk m)
def Bg (r:Role):Prop:=r=.pool\/r=.slots\/r=.taken\/r=.free
def Al (r:Role):Prop:=r=.store\/r=.levels\/r=.vars\/r=.level\/Bg r\/r=.tabs\/(∃ v,r=.tab v\/r=.tmap v)\/r=.counts
section
variable {o:Own}
theorem Ao.setPool (h:Ao o w sb d s)(hlt:Ab o w){p':Ad}(hp:Aq o' w' s.pb p')(hc:Chg Bg o o' w w'):Ao o' w' sb { d with pool:=p' } s:=by
 have n:∀ {r},r ≠ .pool->r ≠ .slots->r ≠ .taken->r ≠ .free->¬ Bg r:=fun a b c d h=>by rcases h with h|h|h|h<;>contradiction
 exact⟨hc.ext _ _ h.own,hc.ext _ _ h.ownl,(hc.same hlt h.own (n (by simp) (by simp) (by simp) (by simp))).trans h.blk,(hc.same hlt h.ownl (n (by simp) (by simp) (by simp) (by simp))).trans h.lev,
  h.vars.chg hc hlt (n (by simp) (by simp) (by simp) (by simp)),h.level.chg hc hlt (n (by simp) (by simp) (by simp) (by simp)),hp,h.tabs.chg hc hlt (n (by simp) (by simp) (by simp) (by simp)),
  fun v hv=>(h.tab v hv).chg hc hlt (n (by simp) (by simp) (by simp) (by simp)) (n (by simp) (by simp) (by simp) (by simp)),h.counts.chg hc hlt (n (by simp) (by simp) (by simp) (by simp)),h.len,h.tlen⟩
theorem Ao.setTab (h:Ao o w sb d s)(hlt:Ab o w){v:Nat}{f':Nat×Nat->Option Nat}(ht:AJ o' w' v (s.ts.getD v 0) f')(hc:Chg (· = .tmap v) o o' w w'):Ao o' w' sb { d with tab:=fun u=>if u=v then f' else d.tab u } s:=by
 refine⟨hc.ext _ _ h.own,hc.ext _ _ h.ownl,(hc.same hlt h.own (by simp)).trans h.blk,(hc.same hlt h.ownl (by simp)).trans h.lev,
  h.vars.chg hc hlt (by simp),h.level.chg hc hlt (by simp),h.pool.chg hc hlt (by simp) (by simp) (by simp) (by simp),h.tabs.chg hc hlt (by simp),
  fun u hu=>?_,h.counts.chg hc hlt (by simp),h.len,h.tlen⟩
 dsimp only
 by_cases e:u=v
 . subst e;rw[WR rfl];exact ht
 . rw[WO e];exact(h.tab u hu).chg hc hlt (by simp) (by simpa using e)
end
def Ak (d:Ae):Nat->Int:=fun i=>if d.pool.tk i=true then ((d.pool.nd i).refs:Int) else 0
structure D3 (d d':Ae)(f:Nat)(sg:Int):Prop where
 vars:d'.vars=d.vars
 level:d'.level=d.level
 tab:d'.tab=d.tab
 nodes:Aa d'=Aa d
 many:d'.pool.many=d.pool.many
 free:d'.pool.free=d.pool.free
 room:d'.pool.room=d.pool.room
 len:d'.pool.at_.length=d.pool.at_.length
 clen:d'.counts.length=d.counts.length
 ext:∀ i,i≠0->Ak d' i=Ak d i+sg*toE f i
 live:A7 d' (Ak d')
def D4 (o:Own)(w:Wd)(sb:Nat)(d:Ae)(s:B9)(f:Nat)(sg:Int)(e:Ending)(w':Wd):Prop :=
 ∃ d',e=.returned (.int .i64 0)/\Ao o w' sb d' s/\Ab o w'/\D3 d d' f sg/\Chg Al o o w w'
theorem I0:∀ r,RCnt r->Al r:=fun r h=>by rcases h with h|h<;>simp[Al,h]
theorem I1:∀ r:Role,r=.slots->Al r:=fun r h=>by simp[Al,Bg,h]
def RN.ref (n:RN)(k:Nat):RN:={ n with refs:=k }
theorem I2 (hk:x<d.pool.at_.length)(ht:d.pool.tk x=true):Aa { d with pool:=d.pool.setNd x ((d.pool.nd x).ref k) }=Aa d:=by
 funext i;unfold Aa;rw[Ad.setNd_get hk ht]
 by_cases e:i=x
 . subst e;simp[Ad.get,ht,RN.ref,bnOf]
 . rw[WO e]
theorem FW (hk:x<d.pool.at_.length)(ht:d.pool.tk x=true):Ak { d with pool:=d.pool.setNd x ((d.pool.nd x).ref k) }=fun i=>if i=x then (k:Int) else Ak d i:=by
 funext i;unfold Ak;have h1:(d.pool.setNd x ((d.pool.nd x).ref k)).tk i=d.pool.tk i:=rfl;have h2:(d.pool.setNd x ((d.pool.nd x).ref k)).nd i=if i=x then (d.pool.nd x).ref k else d.pool.nd i:=De hk i
 dsimp only;rw[h1,h2]
 by_cases e:i=x
 . subst e;simp[ht,RN.ref]
 . simp[e]
theorem CR (ht:d.pool.tk x=true):Ak d x=((d.pool.nd x).refs:Int):=by simp[Ak,ht]
theorem KD {ext:Nat->Int}(hk:x<d.pool.at_.length)(ht:d.pool.tk x=true)(h:A7 d ext):A7 { d with pool:=d.pool.setNd x ((d.pool.nd x).ref k) } ext:=by
 have hn:=I2 (k:=k) hk ht;have hL:({ d with pool:=d.pool.setNd x ((d.pool.nd x).ref k) }:Ae).pool.at_.length=d.pool.at_.length:=by simp[Ad.setNd]
 refine⟨?_,?_,?_⟩
 . rw[hn,hL];exact h.cnt
 . rw[hn,hL];exact h.dead
 . rw[hn];exact h.has
theorem PK {o:Own}(h:Ao o w sb d s)(hlt:Ab o w)(hl:A7 d (Ak d))(f:Nat)(hf:f<eMax)(hx:enode f=0) :
 Calls prog 124 #[Pt sb,.int .i64 f] w (D4 o w sb d s f 1):=by
 obtain⟨c0,c1,c2,c3,c4,f0⟩:=cells5 h.blk;have lsb:sb<w.heap.size:=Ag c0;have g3:Hq (∀ W:Wd,Bw w W->D4 o w sb d s f 1 (.returned (.int .i64 0)) W):=fun W hb =>
  ⟨d,rfl,h.below hlt hb,hlt.mono hb.size,⟨rfl,rfl,rfl,rfl,rfl,rfl,rfl,rfl,rfl,fun i hi=>by
   have e:f/2=0:=hx;simp[toE,e,X1 hi],hl⟩,Chg.of_below hb _ _⟩
 have g1:(decide (enode f=0)||d.pool.tk (enode f))=true:=by rw[hx];rfl
 have g7:Hq (∀ W:Wd,Bw w W->Calls prog 155 #[Pt sb,.int .i64 f] W (Bl (.bool true) W)):=fun W hb=>by
  have h1:=Er (h.below hlt hb) (hlt.mono hb.size) f hf;rw[g1] at h1;exact h1
 have g4:d.pool.tk 0=false:=h.pool.zero;have g2:Hq (∀ W:Wd,Bw w W->Calls prog 160 #[Pt s.pb,.int .i64 (enode f:Nat)] W (Bl (.tuple #[Am (d.pool.has (enode f)),.bool (d.pool.tk (enode f))]) W)) :=
  Hd (fun W hb=>Dh o s.pb d.pool (enode f) W (h.pool.below hb hlt) (hlt.mono hb.size))
 have g8:Hq (∀ W:Wd,Bw w W->W.cell? ⟨sb,1,none⟩=some (.pointer (some ⟨s.pb,0,none⟩))):=Hd (fun W hb=>(hb.cell (p:=⟨sb,1,none⟩) lsb).trans c1);have HN:=Hd (fun W=>B7 f W hf);have g0:d.pool.tk (enode f)=false:=by rw[hx];exact g4
 obtain⟨N,hN⟩:=Ex (d.pool.has (enode f));obtain⟨B,hB⟩:=Ex (d.pool.tk (enode f));obtain⟨k,hk⟩:=Ex (enode f);rw[<- hN,<- hB,<- hk] at g2;rw[<- hk] at HN;have HB:=Hd (hB.trans g0);clear h hlt hl hf hx g1 c0 c1 c2 c3 c4 f0 lsb g4 g0 hN hk hB
 delta Pt;go_enter func124,ntmps124
 go_wp2_with fail;refine(g7.o _ (Xd _ _)).mono ?_;rintro x w1 ⟨rfl,g6⟩;have g9:=Hd g6;clear g6;go_upto_region 5 with fail;refine DP (w0:=w) (N:=N) (v0:=.pointer (some ⟨sb,0,none⟩)) (v1:=.pointer (some ⟨sb,0,none⟩)) (v2:=.pointer (some ⟨sb,1,none⟩)) (v3:=.pointer (some ⟨s.pb,0,none⟩)) (v4:=.int .i64 f) (v5:=.int .i64 k) (v6:=.tuple #[Am N,.bool B]) (v7:=.tuple #[Am N,.bool B]) (v8:=Am N) (v9:=.bool B) (v12:=.bool B) rfl (by kernel_rfl) (by kernel_rfl) ⟨⟨rfl,rfl,rfl,rfl,rfl,rfl,rfl⟩,rfl,rfl,rfl,rfl,rfl,rfl⟩ rfl (by decide) (Cs g9.o 1) (fun W _=>HN.o W) (fun W hb=>g2.o W hb) (fun W hb=>?_) (fun x W=>?_) (fun x W X hX=>?_) (fun a W=>?_) (fun bx W Y hz hY=>?_) (fun bx W3 gc g5 ga=>?_)
 . have gd:=g8.o W hb;simp only[Ac];refine⟨?_,?_,?_,?_,?_⟩<;>go_simp
 . simp only[Ac];refine⟨?_,?_⟩<;>go_simp
 . subst hX;simp only[Ac];unfold Am;refine⟨?_,?_,?_⟩<;>go_simp
 . go_simp
 . subst hY;obtain⟨e0,e1,e2,e3,e4,fz⟩:=cells5 hz;simp only[Ac];unfold Am;refine⟨⟨_,_,_,rfl,Dw (k:=0) fz e0 e1 e2 e3 e4 _ _ _ _ _⟩,fun W=>?_⟩;go_simp
 simp only[Ac];unfold Am;obtain rfl:B=false:=HB.o;have gb:=Hd g5;clear g5 ga g2 HN g7 g8 g9 HB;go_wp2_with fail;go_ret;exact g3.o _ gb.o
theorem PL {o:Own}(h:Ao o w sb d s)(hlt:Ab o w)(hl:A7 d (Ak d))(ha:Acy (Aa d) rk)(f:Nat){b:BN}(hx:Aa d (enode f)=some b)
 (htop:∀ y b,Aa d y=some b->Ak d y<1099511627776) :
 Calls prog 124 #[Pt sb,.int .i64 f] w (D4 o w sb d s f 1):=by
 obtain⟨c0,c1,c2,c3,c4,f0⟩:=cells5 h.blk;have lsb:sb<w.heap.size:=Ag c0;have g9:okE (Aa d) f:=.inr ⟨b,hx⟩;have hf:f<eMax:=by have:=h.edge_lt g9;unfold eMax;omega
 have g0:=BA hx;have g3:=h.tk_lt hx;have gv:(d.pool.nd (enode f)).refs<1099511627776:=by have:=htop _ _ hx;rw[CR g0.1] at this;omega
 have hid:(d.pool.nd (enode f)).id=enode f:=h.pool.id _ g0.1;have ga:(decide (enode f=0)||d.pool.tk (enode f))=true:=by rw[g0.1];simp
 have gq:Hq (∀ W:Wd,Bw w W->Calls prog 155 #[Pt sb,.int .i64 f] W (Bl (.bool true) W)):=fun W hb=>by
  have h1:=Er (h.below hlt hb) (hlt.mono hb.size) f hf;rw[ga] at h1;exact h1
 have g2:Hq (∀ W:Wd,Bw w W->Calls prog 160 #[Pt s.pb,.int .i64 (enode f:Nat)] W (Bl (.tuple #[Am (d.pool.has (enode f)),.bool (d.pool.tk (enode f))]) W)) :=
  Hd (fun W hb=>Dh o s.pb d.pool (enode f) W (h.pool.below hb hlt) (hlt.mono hb.size))
 have gr:Hq (∀ W:Wd,Bw w W->W.cell? ⟨sb,1,none⟩=some (.pointer (some ⟨s.pb,0,none⟩))):=Hd (fun W hb=>(hb.cell (p:=⟨sb,1,none⟩) lsb).trans c1);have HN:=Hd (fun W=>B7 f W hf);obtain⟨r,hr⟩:=Ex ((d.pool.nd (enode f)).refs)
 skip
 have gb:Hq (∀ W:Wd,Bw w W->Calls prog 161 #[Pt s.pb,Am ((d.pool.nd (enode f)).ref (r+1))] W fun x w'=>x=.returned (.int .i64 0)/\Ao o w' sb { d with pool:=d.pool.setNd (enode f) ((d.pool.nd (enode f)).ref (r+1)) } s/\Chg Al o o w w'/\Ab o w'):=fun W hb=>by
  have gx:d.pool.tk ((d.pool.nd (enode f)).ref (r+1)).id=true:=by show d.pool.tk (d.pool.nd (enode f)).id=true;rw[hid];exact g0.1
  refine(Ic o s.pb d.pool ((d.pool.nd (enode f)).ref (r+1)) W (h.pool.below hb hlt) (hlt.mono hb.size) gx).mono ?_;rintro e w' ⟨rfl,hp,hc,g6⟩;have e1:((d.pool.nd (enode f)).ref (r+1)).id=enode f:=hid;rw[e1] at hp;exact⟨rfl,(h.below hlt hb).setPool (hlt.mono hb.size) hp (hc.mono (fun r hr=>by simp[Bg,hr])),(Chg.of_below hb _ _).trans (hc.mono I1),g6⟩
 have g8:Hq (∀ (W:Wd),Ao o W sb { d with pool:=d.pool.setNd (enode f) ((d.pool.nd (enode f)).ref (r+1)) } s->Ab o W->Chg Al o o w W ->
  Calls prog 163 #[Pt sb,.int .i64 f] W fun e w'=>e=.returned (.tuple #[])/\D4 o w sb d s f 1 (.returned (.int .i64 0)) w'):=fun W hs g6 gA=>by
  have g5:=I2 (d:=d) (k:=r+1) g3.2.1 g0.1
  refine(Iy o sb s rk (rk (enode f)+1) W _ (Ak d) f ⟨hs,g6,by rw[g5];exact ha,by rw[g5];exact g9,KD g3.2.1 g0.1 hl,fun y q hq=>(by
   rw[g5] at hq;have h1:=htop y q hq;have h2:toE f y<=1:=by unfold toE;split<;>omega
   omega),.inr (Nat.lt_succ_self _)⟩).mono ?_
  rintro e w' ⟨cs,dd,rfl,gu,gw,gz,_,_,gh⟩;refine⟨rfl,_,rfl,gu,g6.mono gh.size,⟨rfl,rfl,rfl,g5,rfl,rfl,rfl,by simp[Ae.cd,Ad.setNd],gz,fun i hi=>?_,gw.congr (fun y b' hb'=>?_)⟩,gA.trans (gh.mono I0)⟩
  ·show Ak { d with pool:=d.pool.setNd (enode f) ((d.pool.nd (enode f)).ref (r+1)) } i=_
   rw[FW g3.2.1 g0.1];dsimp only;unfold toE
   by_cases e:i=enode f
   . have e':f/2=i:=e.symm;rw[WR e,WR e',e,CR g0.1,<- hr];omega
   ·have e':¬ f/2=i:=fun h'=>e h'.symm
    rw[WO e,WO e'];omega
  ·show Ak { d with pool:=d.pool.setNd (enode f) ((d.pool.nd (enode f)).ref (r+1)) } y=_
   rw[FW g3.2.1 g0.1];dsimp only;unfold addE toE
   by_cases e:y=enode f
   . have e':f/2=y:=e.symm;rw[WR e,WR e',e,CR g0.1,<- hr];omega
   ·have e':¬ f/2=y:=fun h'=>e h'.symm
    rw[WO e,WO e'];omega
 have gn:d.pool.has (enode f)=d.pool.nd (enode f):=g0.2.1;rw[gn] at g2;have gc:Hq (Am ((d.pool.nd (enode f)).ref (r+1))=.agg #[.int .i64 (d.pool.nd (enode f)).id,.int .i64 (d.pool.nd (enode f)).v,.int .i64 (d.pool.nd (enode f)).lo,.int .i64 (d.pool.nd (enode f)).hi,.int .i64 ((r:Int)+1)]):=by
  show _=_
  unfold Am RN.ref;dsimp only;rw[show ((r+1:Nat):Int)=(r:Int)+1 from by omega]
 rw[g0.1] at g2;rw[<- hr] at gv;obtain⟨N,hN⟩:=Ex (d.pool.nd (enode f));have gm:N.refs=r:=by rw[hN,hr]
 rw[<- hN] at g2 gc gb g8;obtain⟨B,hB⟩:=Ex true;rw[<- hB] at g2;obtain⟨k,hk⟩:=Ex (enode f);rw[<- hk] at g2 HN;have gs:=Hd hB;have gp:=Hd gm;have gF:=Hd hk;clear h hlt hl ha hx htop hf g0 ga g3 hid hr gn hN hB hk g9 c0 c1 c2 c3 c4 f0 lsb gm
 delta Pt;go_enter func124,ntmps124
 go_wp2_with fail;refine(gq.o _ (Xd _ _)).mono ?_;rintro x w1 ⟨rfl,gk⟩;have gE:=Hd gk;clear gk gq;go_upto_region 5 with fail;refine DP (w0:=w) (N:=N) (v0:=.pointer (some ⟨sb,0,none⟩)) (v1:=.pointer (some ⟨sb,0,none⟩)) (v2:=.pointer (some ⟨sb,1,none⟩)) (v3:=.pointer (some ⟨s.pb,0,none⟩)) (v4:=.int .i64 f) (v5:=.int .i64 k) (v6:=.tuple #[Am N,.bool B]) (v7:=.tuple #[Am N,.bool B]) (v8:=Am N) (v9:=.bool B) (v12:=.bool B) rfl (by kernel_rfl) (by kernel_rfl) ⟨⟨rfl,rfl,rfl,rfl,rfl,rfl,rfl⟩,rfl,rfl,rfl,rfl,rfl,rfl⟩ rfl (by decide) (Cs gE.o 1) (fun W _=>HN.o W) (fun W hb=>g2.o W hb) (fun W hb=>?_) (fun x W=>?_) (fun x W X hX=>?_) (fun a W=>?_) (fun bx W Y hz hY=>?_) (fun bx W3 gy gj gd=>?_)
 . have gi:=gr.o W hb;simp only[Ac];refine⟨?_,?_,?_,?_,?_⟩<;>go_simp
 . simp only[Ac];refine⟨?_,?_⟩<;>go_simp
 . subst hX;simp only[Ac];unfold Am;refine⟨?_,?_,?_⟩<;>go_simp
 . go_simp
 . subst hY;obtain⟨e0,e1,e2,e3,e4,fz⟩:=cells5 hz;simp only[Ac];unfold Am;refine⟨⟨_,_,_,rfl,Dw (k:=0) fz e0 e1 e2 e3 e4 _ _ _ _ _⟩,fun W=>?_⟩;go_simp
 simp only[Ac];unfold Am;obtain rfl:B=true:=gs.o;have g1:=gd;unfold Iv at g1;rw[gp.o] at g1;have go:=Hd g1;have gt:=Hd gj;obtain⟨y0,y1,y2,y3,y4,yz⟩:=cells5 g1;clear gd g1 gj gp g2 HN gs;go_upto_region 8 with fail;have g4:=Az (k:=4) go.o (.int .i64 ((r:Int)+1));have g7:Bw w (W3.setCell ⟨bx,4,none⟩ (.int .i64 ((r:Int)+1))):=gt.o.setCell (p:=⟨bx,4,none⟩) gy _;obtain⟨W4,gl⟩:∃ W,W=W3.setCell ⟨bx,4,none⟩ (.int .i64 ((r:Int)+1)):=⟨_,rfl⟩;rw[<- gl] at g4 g7 ⊢;clear gl go gt y0 y1 y2 y3 y4 yz;simp at g4;obtain⟨z0,z1,z2,z3,z4,zz⟩:=cells5 g4;have gi:=gr.o _ g7;refine AR (fun w'=>w'=W4.drew) true 5 [(0,false),(1,false),(2,false),(3,false),(4,false),(5,true)] (by kernel_rfl) (by kernel_rfl) rfl ?_;simp only[planned,AQ]
 iterate 5
  refine A3 rfl ?_;apply Exists.intro;refine⟨fun w' hw=>?_,?_⟩
  . subst hw;go_simp;rfl
  simp only[Ac]
 refine Dv rfl (fun K hK=>?_);unfold Oper.wp;go_simp;rw[<- gc.o];refine(gb.o _ (Cs g7 1)).mono ?_;rintro x w5 ⟨rfl,ge,gg,gf⟩;refine hK _ _ (Cj ?_);have gB:=Hd ge;have gD:=Hd gg;have gC:=Hd gf;clear ge gg gf g4 g7 z0 z1 z2 z3 z4 zz gi;go_wp2_with fail;refine(g8.o _ gB.o gC.o gD.o).mono ?_;rintro x w6 ⟨rfl,hp⟩;have HP:=Hd hp;clear hp;go_wp2_with fail;go_ret;exact HP.o
theorem PM {o:Own}(h:Ao o w sb d s)(hlt:Ab o w)(hl:A7 d (Ak d))(f:Nat)(hf:f<eMax)(hx:enode f=0) :
 Calls prog 123 #[Pt sb,.int .i64 f] w (D4 o w sb d s f (-1)):=by
 obtain⟨c0,c1,c2,c3,c4,f0⟩:=cells5 h.blk;have lsb:sb<w.heap.size:=Ag c0;have g3:Hq (∀ W:Wd,Bw w W->D4 o w sb d s f (-1) (.returned (.int .i64 0)) W):=fun W hb =>
  ⟨d,rfl,h.below hlt hb,hlt.mono hb.size,⟨rfl,rfl,rfl,rfl,rfl,rfl,rfl,rfl,rfl,fun i hi=>by
   have e:f/2=0:=hx;simp[toE,e,X1 hi],hl⟩,Chg.of_below hb _ _⟩
 have g1:(decide (enode f=0)||d.pool.tk (enode f))=true:=by rw[hx];rfl
 have g7:Hq (∀ W:Wd,Bw w W->Calls prog 155 #[Pt sb,.int .i64 f] W (Bl (.bool true) W)):=fun W hb=>by
  have h1:=Er (h.below hlt hb) (hlt.mono hb.size) f hf;rw[g1] at h1;exact h1
 have g4:d.pool.tk 0=false:=h.pool.zero;have g2:Hq (∀ W:Wd,Bw w W->Calls prog 160 #[Pt s.pb,.int .i64 (enode f:Nat)] W (Bl (.tuple #[Am (d.pool.has (enode f)),.bool (d.pool.tk (enode f))]) W)) :=
  Hd (fun W hb=>Dh o s.pb d.pool (enode f) W (h.pool.below hb hlt) (hlt.mono hb.size))
 have g8:Hq (∀ W:Wd,Bw w W->W.cell? ⟨sb,1,none⟩=some (.pointer (some ⟨s.pb,0,none⟩))):=Hd (fun W hb=>(hb.cell (p:=⟨sb,1,none⟩) lsb).trans c1);have HN:=Hd (fun W=>B7 f W hf);have g0:d.pool.tk (enode f)=false:=by rw[hx];exact g4
 obtain⟨N,hN⟩:=Ex (d.pool.has (enode f));obtain⟨B,hB⟩:=Ex (d.pool.tk (enode f));obtain⟨k,hk⟩:=Ex (enode f);rw[<- hN,<- hB,<- hk] at g2;rw[<- hk] at HN;have HB:=Hd (hB.trans g0);clear h hlt hl hf hx g1 c0 c1 c2 c3 c4 f0 lsb g4 g0 hN hk hB
 delta Pt;go_enter func123,ntmps123
 go_wp2_with fail;refine(g7.o _ (Xd _ _)).mono ?_;rintro x w1 ⟨rfl,g6⟩;have g9:=Hd g6;clear g6;go_upto_region 5 with fail;refine DP (w0:=w) (N:=N) (v0:=.pointer (some ⟨sb,0,none⟩)) (v1:=.pointer (some ⟨sb,0,none⟩)) (v2:=.pointer (some ⟨sb,1,none⟩)) (v3:=.pointer (some ⟨s.pb,0,none⟩)) (v4:=.int .i64 f) (v5:=.int .i64 k) (v6:=.tuple #[Am N,.bool B]) (v7:=.tuple #[Am N,.bool B]) (v8:=Am N) (v9:=.bool B) (v12:=.bool B) rfl (by kernel_rfl) (by kernel_rfl) ⟨⟨rfl,rfl,rfl,rfl,rfl,rfl,rfl⟩,rfl,rfl,rfl,rfl,rfl,rfl⟩ rfl (by decide) (Cs g9.o 1) (fun W _=>HN.o W) (fun W hb=>g2.o W hb) (fun W hb=>?_) (fun x W=>?_) (fun x W X hX=>?_) (fun a W=>?_) (fun bx W Y hz hY=>?_) (fun bx W3 gc g5 ga=>?_)
 . have gd:=g8.o W hb;simp only[Ac];refine⟨?_,?_,?_,?_,?_⟩<;>go_simp
 . simp only[Ac];refine⟨?_,?_⟩<;>go_simp
 . subst hX;simp only[Ac];unfold Am;refine⟨?_,?_,?_⟩<;>go_simp
 . go_simp
 . subst hY;obtain⟨e0,e1,e2,e3,e4,fz⟩:=cells5 hz;simp only[Ac];unfold Am;refine⟨⟨_,_,_,rfl,Dw (k:=0) fz e0 e1 e2 e3 e4 _ _ _ _ _⟩,fun W=>?_⟩;go_simp
 simp only[Ac];unfold Am;obtain rfl:B=false:=HB.o;have gb:=Hd g5;clear g5 ga g2 HN g7 g8 g9 HB;go_wp2_with fail;go_ret;exact g3.o _ gb.o
theorem PN {o:Own}(h:Ao o w sb d s)(hlt:Ab o w)(hl:A7 d (Ak d))(ha:Acy (Aa d) rk)(f:Nat){b:BN}(hx:Aa d (enode f)=some b)
 (htop:∀ y b,Aa d y=some b->Ak d y<1099511627776) (hpos:1<=Ak d (enode f)) (hcn:∀ y b,Aa d y=some b->Aj d y<=2199023255552) :
 Calls prog 123 #[Pt sb,.int .i64 f] w (D4 o w sb d s f (-1)):=by
 obtain⟨c0,c1,c2,c3,c4,f0⟩:=cells5 h.blk;have lsb:sb<w.heap.size:=Ag c0;have g9:okE (Aa d) f:=.inr ⟨b,hx⟩;have hf:f<eMax:=by have:=h.edge_lt g9;unfold eMax;omega
 have g0:=BA hx;have g3:=h.tk_lt hx;have gv:(d.pool.nd (enode f)).refs<1099511627776:=by have:=htop _ _ hx;rw[CR g0.1] at this;omega
 have hid:(d.pool.nd (enode f)).id=enode f:=h.pool.id _ g0.1;have ga:(decide (enode f=0)||d.pool.tk (enode f))=true:=by rw[g0.1];simp
 have gq:Hq (∀ W:Wd,Bw w W->Calls prog 155 #[Pt sb,.int .i64 f] W (Bl (.bool true) W)):=fun W hb=>by
  have h1:=Er (h.below hlt hb) (hlt.mono hb.size) f hf;rw[ga] at h1;exact h1
 have g2:Hq (∀ W:Wd,Bw w W->Calls prog 160 #[Pt s.pb,.int .i64 (enode f:Nat)] W (Bl (.tuple #[Am (d.pool.has (enode f)),.bool (d.pool.tk (enode f))]) W)) :=
  Hd (fun W hb=>Dh o s.pb d.pool (enode f) W (h.pool.below hb hlt) (hlt.mono hb.size))
 have gr:Hq (∀ W:Wd,Bw w W->W.cell? ⟨sb,1,none⟩=some (.pointer (some ⟨s.pb,0,none⟩))):=Hd (fun W hb=>(hb.cell (p:=⟨sb,1,none⟩) lsb).trans c1);have HN:=Hd (fun W=>B7 f W hf);obtain⟨r,hr⟩:=Ex ((d.pool.nd (enode f)).refs);have gF:1<=r:=by rw[CR g0.1] at hpos;omega
 have gb:Hq (∀ W:Wd,Bw w W->Calls prog 161 #[Pt s.pb,Am ((d.pool.nd (enode f)).ref (r-1))] W fun x w'=>x=.returned (.int .i64 0)/\Ao o w' sb { d with pool:=d.pool.setNd (enode f) ((d.pool.nd (enode f)).ref (r-1)) } s/\Chg Al o o w w'/\Ab o w'):=fun W hb=>by
  have gx:d.pool.tk ((d.pool.nd (enode f)).ref (r-1)).id=true:=by show d.pool.tk (d.pool.nd (enode f)).id=true;rw[hid];exact g0.1
  refine(Ic o s.pb d.pool ((d.pool.nd (enode f)).ref (r-1)) W (h.pool.below hb hlt) (hlt.mono hb.size) gx).mono ?_;rintro e w' ⟨rfl,hp,hc,g6⟩;have e1:((d.pool.nd (enode f)).ref (r-1)).id=enode f:=hid;rw[e1] at hp;exact⟨rfl,(h.below hlt hb).setPool (hlt.mono hb.size) hp (hc.mono (fun r hr=>by simp[Bg,hr])),(Chg.of_below hb _ _).trans (hc.mono I1),g6⟩
 have g8:Hq (∀ (W:Wd),Ao o W sb { d with pool:=d.pool.setNd (enode f) ((d.pool.nd (enode f)).ref (r-1)) } s->Ab o W->Chg Al o o w W ->
  Calls prog 162 #[Pt sb,.int .i64 f] W fun e w'=>e=.returned (.tuple #[])/\D4 o w sb d s f (-1) (.returned (.int .i64 0)) w'):=fun W hs g6 gA=>by
  have g4:=I2 (d:=d) (k:=r-1) g3.2.1 g0.1
  refine(Iz o sb s rk (rk (enode f)+1) W _ (Ak d) f ⟨hs,g6,by rw[g4];exact ha,by rw[g4];exact g9,KD g3.2.1 g0.1 hl,fun y q hq=>hcn y q (by rw[g4] at hq;exact hq),fun y q hq=>(by
   rw[g4] at hq
   by_cases e:enode f=y
   ·subst e;have h1:Ak d (enode f)=(r:Int):=by rw[CR g0.1,hr]
    have h2:toE f (enode f)=1:=Em f;rw[h1,h2];omega
   ·have h1:toE f y=0:=WO e;have h2:0<=Ak d y:=by unfold Ak;split<;>omega
    rw[h1];omega),.inr (Nat.lt_succ_self _)⟩).mono ?_
  rintro e w' ⟨cs,dd,rfl,gu,gw,gz,_,_,gh⟩;refine⟨rfl,_,rfl,gu,g6.mono gh.size,⟨rfl,rfl,rfl,g4,rfl,rfl,rfl,by simp[Ae.cd,Ad.setNd],gz,fun i hi=>?_,gw.congr (fun y b' hb'=>?_)⟩,gA.trans (gh.mono I0)⟩
  ·show Ak { d with pool:=d.pool.setNd (enode f) ((d.pool.nd (enode f)).ref (r-1)) } i=_
   rw[FW g3.2.1 g0.1];dsimp only;unfold toE
   by_cases e:i=enode f
   . have e':f/2=i:=e.symm;rw[WR e,WR e',e,CR g0.1,<- hr];omega
   ·have e':¬ f/2=i:=fun h'=>e h'.symm
    rw[WO e,WO e'];omega
  ·show Ak { d with pool:=d.pool.setNd (enode f) ((d.pool.nd (enode f)).ref (r-1)) } y=_
   rw[FW g3.2.1 g0.1];dsimp only;unfold addE toE
   by_cases e:y=enode f
   . have e':f/2=y:=e.symm;rw[WR e,WR e',e,CR g0.1,<- hr];omega
   ·have e':¬ f/2=y:=fun h'=>e h'.symm
    rw[WO e,WO e'];omega
 have gn:d.pool.has (enode f)=d.pool.nd (enode f):=g0.2.1;rw[gn] at g2;have gc:Hq (Am ((d.pool.nd (enode f)).ref (r-1))=.agg #[.int .i64 (d.pool.nd (enode f)).id,.int .i64 (d.pool.nd (enode f)).v,.int .i64 (d.pool.nd (enode f)).lo,.int .i64 (d.pool.nd (enode f)).hi,.int .i64 ((r:Int)-1)]):=by
  show _=_
  unfold Am RN.ref;dsimp only;rw[show ((r-1:Nat):Int)=(r:Int)-1 from by omega]
 rw[g0.1] at g2;rw[<- hr] at gv;obtain⟨N,hN⟩:=Ex (d.pool.nd (enode f));have gm:N.refs=r:=by rw[hN,hr]
 rw[<- hN] at g2 gc gb g8;obtain⟨B,hB⟩:=Ex true;rw[<- hB] at g2;obtain⟨k,hk⟩:=Ex (enode f);rw[<- hk] at g2 HN;have gs:=Hd hB;have gp:=Hd gm;have gG:=Hd hk;clear h hlt hl ha hx htop hf g0 ga g3 hid hr gn hN hB hk g9 c0 c1 c2 c3 c4 f0 lsb gm hpos hcn
 delta Pt;go_enter func123,ntmps123
 go_wp2_with fail;refine(gq.o _ (Xd _ _)).mono ?_;rintro x w1 ⟨rfl,gk⟩;have gE:=Hd gk;clear gk gq;go_upto_region 5 with fail;refine DP (w0:=w) (N:=N) (v0:=.pointer (some ⟨sb,0,none⟩)) (v1:=.pointer (some ⟨sb,0,none⟩)) (v2:=.pointer (some ⟨sb,1,none⟩)) (v3:=.pointer (some ⟨s.pb,0,none⟩)) (v4:=.int .i64 f) (v5:=.int .i64 k) (v6:=.tuple #[Am N,.bool B]) (v7:=.tuple #[Am N,.bool B]) (v8:=Am N) (v9:=.bool B) (v12:=.bool B) rfl (by kernel_rfl) (by kernel_rfl) ⟨⟨rfl,rfl,rfl,rfl,rfl,rfl,rfl⟩,rfl,rfl,rfl,rfl,rfl,rfl⟩ rfl (by decide) (Cs gE.o 1) (fun W _=>HN.o W) (fun W hb=>g2.o W hb) (fun W hb=>?_) (fun x W=>?_) (fun x W X hX=>?_) (fun a W=>?_) (fun bx W Y hz hY=>?_) (fun bx W3 gy gj gd=>?_)
 . have gi:=gr.o W hb;simp only[Ac];refine⟨?_,?_,?_,?_,?_⟩<;>go_simp
 . simp only[Ac];refine⟨?_,?_⟩<;>go_simp
 . subst hX;simp only[Ac];unfold Am;refine⟨?_,?_,?_⟩<;>go_simp
 . go_simp
 . subst hY;obtain⟨e0,e1,e2,e3,e4,fz⟩:=cells5 hz;simp only[Ac];unfold Am;refine⟨⟨_,_,_,rfl,Dw (k:=0) fz e0 e1 e2 e3 e4 _ _ _ _ _⟩,fun W=>?_⟩;go_simp
 simp only[Ac];unfold Am;obtain rfl:B=true:=gs.o;have g1:=gd;unfold Iv at g1;rw[gp.o] at g1;have go:=Hd g1;have gt:=Hd gj;obtain⟨y0,y1,y2,y3,y4,yz⟩:=cells5 g1;clear gd g1 gj gp g2 HN gs;go_upto_region 11 with fail;have g5:=Az (k:=4) go.o (.int .i64 ((r:Int)-1));have g7:Bw w (W3.setCell ⟨bx,4,none⟩ (.int .i64 ((r:Int)-1))):=gt.o.setCell (p:=⟨bx,4,none⟩) gy _;obtain⟨W4,gl⟩:∃ W,W=W3.setCell ⟨bx,4,none⟩ (.int .i64 ((r:Int)-1)):=⟨_,rfl⟩;rw[<- gl] at g5 g7 ⊢;clear gl go gt y0 y1 y2 y3 y4 yz;simp at g5;obtain⟨z0,z1,z2,z3,z4,zz⟩:=cells5 g5;have gi:=gr.o _ g7;refine AR (fun w'=>w'=W4.drew) true 5 [(0,false),(1,false),(2,false),(3,false),(4,false),(5,true)] (by kernel_rfl) (by kernel_rfl) rfl ?_;simp only[planned,AQ]
 iterate 5
  refine A3 rfl ?_;apply Exists.intro;refine⟨fun w' hw=>?_,?_⟩
  . subst hw;go_simp;rfl
  simp only[Ac]
 refine Dv rfl (fun K hK=>?_);unfold Oper.wp;go_simp;rw[<- gc.o];refine(gb.o _ (Cs g7 1)).mono ?_;rintro x w5 ⟨rfl,ge,gg,gf⟩;refine hK _ _ (Cj ?_);have gB:=Hd ge;have gD:=Hd gg;have gC:=Hd gf;clear ge gg gf g5 g7 z0 z1 z2 z3 z4 zz gi;go_wp2_with fail;refine(g8.o _ gB.o gC.o gD.o).mono ?_;rintro x w6 ⟨rfl,hp⟩;have HP:=Hd hp;clear hp;go_wp2_with fail;go_ret;exact HP.o
structure KE (p p':Ad)(id:Nat)(n:RN):Prop where
 get:∀ i,p'.get i=if i=id then some { n with id:=id } else p.get i
 none:p.tk id=false
 pos:0<id
 lt:id<p'.at_.length
 le:p.at_.length<=p'.at_.length
 many:p'.many=p.many+1
 room:p'.room=p.room
theorem PO (o:Own)(pb:Nat)(p:Ad)(n:RN)(w:Wd)(h:Aq o w pb p)(hlt:Ab o w) :
 Calls prog 198 #[Pt pb,Am n] w fun x w'=>(p.many=p.room/\x=.returned (.tuple #[.int .i64 0,.int .i64 7])/\Bw w w') \/
  (∃ id p' o',x=.returned (.tuple #[.int .i64 (id:Nat),.int .i64 0])/\Aq o' w' pb p'/\KE p p' id n/\Chg Bg o o' w w'/\Ab o' w'):=by
 rcases List.eq_nil_or_concat p.free with hf|⟨fs,id,hf⟩
 ·by_cases hr:p.at_.length<=p.room
  . refine(OY o pb p n w h hlt hf hr).mono ?_;rintro e w' ⟨rfl,o',h1,h2,h3⟩;refine .inr ⟨_,_,o',rfl,h1,⟨fun i=>Ad.fresh_get h.len i,?_,h.pos,by simp[Ad.fresh],by simp[Ad.fresh],rfl,rfl⟩,h2,h3⟩;simp[Ad.tk,List.getD,Xb (Nat.le_of_eq h.len)]
  . refine(OX o pb p n w h hf (by omega)).mono ?_;rintro e w' ⟨rfl,hb⟩;refine .inl ⟨?_,rfl,hb⟩;have h1:=h.many;have h2:=h.top;rw[hf] at h1;simp at h1;omega
 . rw[List.concat_eq_append] at hf;have hm:=h.free id (by rw[hf];simp);refine(OW o pb p n fs id w h hlt hf).mono ?_;rintro e w' ⟨rfl,h1,h2,h3⟩;exact .inr ⟨id,_,o,rfl,h1,⟨fun i=>Ad.reuse_get hm.2.1 (by rw[h.len];exact hm.2.1) i,hm.2.2,hm.1,by simp[Ad.reuse];exact hm.2.1,by simp[Ad.reuse],rfl,rfl⟩,h2,h3⟩
structure DQ (d d':Ae)(id v lo hi:Nat):Prop where
 vars:d'.vars=d.vars
 level:d'.level=d.level
 tab:d'.tab=fun u=>if u=v then putF (d.tab v) (lo,hi) (some id) else d.tab u
 nodes:Aa d'=addN (Aa d) id ⟨v,lo,hi⟩
 none:Aa d id=none
 pos:0<id
 many:d'.pool.many=d.pool.many+1
 room:d'.pool.room=d.pool.room
 ext:Ak d'=fun i=>if i=id then 0 else Ak d i
 live:A7 d' (Ak d')
 clen:d'.counts.length<=1048578
 cnt:Aj d'=setC (Aj d) id 0
def PQ (o:Own)(w:Wd)(sb:Nat)(d:Ae)(v lo hi:Nat)(e:Ending)(w':Wd):Prop :=
 (d.pool.many=d.pool.room/\e=.returned (.tuple #[.int .i64 0,.int .i64 7])/\Bw w w') \/
 (∃ id d' o',e=.returned (.tuple #[.int .i64 (id:Nat),.int .i64 0])/\Ay o' w' sb d'/\Ab o' w'/\DQ d d' id v lo hi/\Chg Al o o' w w')
theorem PR {c:Nat->Nat}{b:BN}(hlt:∀ i b,N i=some b->i<k)(hk:k<=k')(hf:N id=none)(hid:id<k'):AW k' (addN N id b) (setC c id 0)=AW k N c+1:=by
 unfold AW;rw[Dd (f:=dead1 N c) (j:=id) (fun i hi=>?_) k' hid]
 ·rw[Ki (k:=k) (fun i hi=>?_) hk]
  . simp[dead1,hf,BQ,setC]
  ·unfold dead1;cases e:N i with
   | none=>rfl
   | some b'=>exact absurd (hlt i b' e) (by omega)
 . unfold dead1;rw[Bc _ hi];simp only[setC,WO hi]
section
variable {o:Own}
theorem Ao.setVc (h:Ao o w sb d s)(hlt:Ab o w){cs:List Nat}(hr:RowR o' w' .counts 3 1 v cs.length (cs.map nat64))(hc:Chg (· = .counts) o o' w w'):Ao o' (w'.setCell ⟨sb,3,none⟩ v) sb (d.cd cs d.dead) { s with vc:=v }:=by
 have g0:=hc.ext _ _ h.own;have ne:∀ {b r},o' b=some r->r ≠ .store->b≠sb:=fun hb hr e=>by subst e;rw[g0] at hb;cases hb;exact hr rfl
 have k1:∀ {b r},o' b=some r->r ≠ .store->(w'.setCell ⟨sb,3,none⟩ v).heap[b]?=w'.heap[b]?:=fun hb hr=>Aw (ne hb hr) _
 refine⟨g0,hc.ext _ _ h.ownl,Az (k:=3) ((hc.same hlt h.own (by simp)).trans h.blk) _,(k1 (hc.ext _ _ h.ownl) (by simp)).trans ((hc.same hlt h.ownl (by simp)).trans h.lev),
  (h.vars.chg hc hlt (by simp)).keep (fun g hg=>k1 hg (by simp)) (fun _ h=>h),(h.level.chg hc hlt (by simp)).keep (fun g hg=>k1 hg (by simp)) (fun _ h=>h),
  (h.pool.chg hc hlt (by simp) (by simp) (by simp) (by simp)).keep (fun g r hg hr=>k1 hg (by rcases hr with rfl|rfl|rfl|rfl<;>simp)) (fun _ _ h=>h),
  (h.tabs.chg hc hlt (by simp)).keep (fun g hg=>k1 hg (by simp)) (fun _ h=>h),
  fun u hu=>((h.tab u hu).chg hc hlt (by simp) (by simp)).keep (fun g r hg hr=>k1 hg (by rcases hr with rfl|rfl<;>simp)) (fun _ _ h=>h),
  hr.keep (fun g hg=>k1 hg (by simp)) (fun _ h=>h),h.len,h.tlen⟩
end
theorem Ao.tabAt {o:Own}(h:Ao o w sb d s){v:Nat}(hv:v<d.vars.length):∃ gt cap,s.vt=.slice (some ⟨gt,0,none⟩) s.ts.length cap/\w.cell? ⟨gt,v,none⟩=some (.pointer (some ⟨s.ts.getD v 0,0,none⟩))/\v<s.ts.length/\s.ts.length<=9223372036854775807:=by
 have g0:v<s.ts.length:=by rw[h.tlen];exact hv
 obtain⟨gt,cap,g1,_,h1,h2⟩:=h.tabs.shape (by omega);have hr:=h.tabs;rw[g1] at hr;refine⟨gt,cap,g1,?_,g0,by unfold maxLen at h2;omega⟩;rw[hr.cell v (by simpa using g0),XC,WS g0];simp[ptrV,List.getD,g0]
structure AddS (o:Own)(w:Wd)(sb:Nat)(d:Ae)(ts:List Nat)(vt:Value)(o1:Own)(wx:Wd):Prop where
 st:∃ s,Ao o1 wx sb d s/\s.ts=ts/\s.vt=vt
 lt:Ab o1 wx
 chg:Chg Al o o1 w wx
theorem PS:(prog.info? 3).map (fun i=>(i.zero,i.size,i.bytes))=some (some (.int .i64 0),1,8):=by kernel_rfl
def padC (cs:List Nat)(j:Nat):List Nat:=cs++List.replicate j 0
theorem PT (cs:List Nat)(j:Nat):padC cs (j+1)=padC cs j++[0]:=by unfold padC;rw[List.replicate_succ',Xf]
theorem Fa (cs:List Nat)(j:Nat):(padC cs j).length=cs.length+j:=by simp[padC]
theorem PU (cs:List Nat)(j i:Nat):(padC cs j).getD i 0=cs.getD i 0:=by
 unfold padC;simp only[List.getD,List.getElem?_append];split
 . rfl
 ·rename_i h
  rw[Xb (l:=cs) (by omega),Ze];split<;>rfl
def Ae.added (d:Ae)(p':Ad)(cs:List Nat)(id v lo hi:Nat):Ae:=⟨d.vars,d.level,p',fun u=>if u=v then putF (d.tab v) (lo,hi) (some id) else d.tab u,cs.set id 0,d.dead+1⟩
theorem PV {p':Ad}{v:Nat}(hl:A7 d (Ak d))(hok:∀ i b,Aa d i=some b->okE (Aa d) b.lo/\okE (Aa d) b.hi)(hr:KE d.pool p' id ⟨0,v,lo,hi,0⟩)
 (hid:id<(padC d.counts j).length) (hcl:(padC d.counts j).length<=1048578):DQ d (d.added p' (padC d.counts j) id v lo hi) id v lo hi:=by
 have g0:Aa d id=none:=by unfold Aa Ad.get;rw[WO (by rw[hr.none];simp)];rfl
 have g1:Aa (d.added p' (padC d.counts j) id v lo hi)=addN (Aa d) id ⟨v,lo,hi⟩:=by
  funext i;unfold Aa Ae.added;dsimp only;rw[hr.get]
  by_cases e:i=id
  . subst e;rw[WR rfl,BQ];rfl
  . rw[WO e,Bc _ e]
 have g4:∀ i,p'.tk i=if i=id then true else d.pool.tk i:=fun i=>by
  have h1:=hr.get i;unfold Ad.get at h1
  by_cases e:i=id
  ·rw[WR e] at h1 ⊢;split at h1
   . assumption
   . cases h1
  ·rw[WO e] at h1 ⊢
   by_cases h2:p'.tk i=true<;>by_cases h3:d.pool.tk i=true<;>simp[h2,h3] at h1 ⊢
 have g3:Ak (d.added p' (padC d.counts j) id v lo hi)=fun i=>if i=id then 0 else Ak d i:=by
  funext i;unfold Ak;have h1:=hr.get i
  show (if p'.tk i=true then ((p'.nd i).refs:Int) else 0)=_
  rw[g4];unfold Ad.get at h1;rw[g4] at h1
  by_cases e:i=id
  . rw[WR e] at h1;simp only[e,XP] at h1 ⊢;have h2:=XL h1;rw[h2];rfl
  ·rw[WO e] at h1;simp only[WO e] at h1 ⊢
   by_cases h3:d.pool.tk i=true
   . rw[WR h3,WR h3] at h1;rw[WR h3,WR h3,XL h1]
   . rw[WO h3,WO h3]
 have g2:Aj (d.added p' (padC d.counts j) id v lo hi)=setC (Aj d) id 0:=by
  funext i;unfold Aj setC Ae.added;dsimp only
  by_cases e:i=id
  . subst e;rw[WR rfl];simp[List.getD,hid]
  . rw[WO e,<- PU d.counts j i];simp only[List.getD,Xv,WO (X1 e)]
 have g5:id≠0:=by have:=hr.pos;omega
 refine⟨rfl,rfl,rfl,g1,g0,hr.pos,hr.many,hr.room,g3,⟨?_,?_,fun i b hb=>?_⟩,by simpa [Ae.added] using hcl,g2⟩
 ·rw[g1,g2,g3]
  show Cnt p'.at_.length _ _ _
  refine Cnt.add (hl.cnt.weaken hr.le) g0 (fun i bi hb=>?_) hr.lt;have h1:=hok i bi hb;constructor
  ·rcases h1.1 with h2|⟨c,h2⟩
   . omega
   . intro e;rw[e,g0] at h2;cases h2
  ·rcases h1.2 with h2|⟨c,h2⟩
   . omega
   . intro e;rw[e,g0] at h2;cases h2
 ·rw[g1,g2]
  show ((d.dead+1:Nat):Int)=AW p'.at_.length _ _
  rw[PR hl.cnt.lt hr.le g0 hr.lt,<- hl.dead];omega
 ·rw[g1] at hb
  show i<((padC d.counts j).set id 0).length
  rw[Xi]
  by_cases e:i=id
  . subst e;exact hid
  . rw[Bc _ e] at hb;have:=hl.has i b hb;rw[Fa];omega
theorem KG {o:Own}(h:Ao o w sb d s)(hlt:Ab o w)(hl:A7 d (Ak d))(hok:∀ i b,Aa d i=some b->okE (Aa d) b.lo/\okE (Aa d) b.hi)
 (v lo hi:Nat) (hv:v<d.vars.length) (ht:d.tab v (lo,hi)=none) (hcl:d.counts.length<=1048578) :
 Calls prog 181 #[Pt sb,.int .i64 v,.int .i64 lo,.int .i64 hi] w (PQ o w sb d v lo hi):=by
 obtain⟨c0,c1,c2,c3,c4,f0⟩:=cells5 h.blk;have gg:=Hd (PO o s.pb d.pool ⟨0,v,lo,hi,0⟩ w h.pool hlt);have h7:Hq (Am ⟨0,v,lo,hi,0⟩=.agg #[.int .i64 0,.int .i64 v,.int .i64 lo,.int .i64 hi,.int .i64 0]):=rfl;have HH:=Hd h;have h9:=Hd hlt;have gN:=Hd (fun p' id j hr h1 h2=>PV (p':=p') (id:=id) (v:=v) (lo:=lo) (hi:=hi) (j:=j) hl hok hr h1 h2);have gy:Hq (d.dead<=1048577):=by
  show _<=_
  have h1:=hl.dead;have h2:=EX (f:=dead1 (Aa d) (Aj d)) (B:=1) d.pool.at_.length (fun i _=>by unfold dead1;split<;>first|omega|(split<;>omega));have h3:AW d.pool.at_.length (Aa d) (Aj d)=Ah d.pool.at_.length (dead1 (Aa d) (Aj d)):=rfl;have h4:=h.pool.top;have h5:=h.pool.room;omega
 have HV:=Hd hv;have HT:=Hd ht;clear h hlt hl hok hv ht
 delta Pt;go_enter func181,ntmps181
 go_wp2_with fail;rw[<- h7.o];refine gg.o.mono ?_;rintro x w1 (⟨hm,rfl,hb⟩|⟨id,p',o1,rfl,hp,hr,hc,g7⟩)
 ·have HM:=Hd hm;have HB:=Hd hb;clear hm hb;go_wp2_with fail
  go_ret2
  exact .inl ⟨HM.o,rfl,HB.o⟩
 ·have st1:=HH.o.setPool h9.o hp hc;have gS:=hp.tk_lt (i:=id) (by have h1:=hr.get id;unfold Ad.get at h1;rw[WR rfl] at h1;split at h1;(· assumption);cases h1);have gQ:=hp.top;have gR:=hp.room;have gH:Hq (AddS o w sb { d with pool:=p' } s.ts s.vt o1 w1):=⟨⟨s,st1,rfl,rfl⟩,g7,hc.mono (fun r hr=>by simp[Al,hr])⟩;have HR:=Hd hr;have ho:id<=1048577:=by omega
  clear hp hr hc g7 st1 gg gS gQ gR c0 c1 c2 c3 c4 f0;go_wp2_with fail
  go_loopg [] (id+1-d.counts.length) (fun gk wx=>∃ (j:Nat) (o2:Own),AddS o w sb { d with pool:=p',counts:=padC d.counts j } s.ts s.vt o2 wx/\j+gk=id+1-d.counts.length)
  case atStart=>exact⟨0,o1,by have e:padC d.counts 0=d.counts:=by { simp[padC] };rw[e];exact gH.o,by omega⟩
  case round =>
   obtain⟨j,o2,hS,hj⟩:=hrel;obtain⟨⟨s2,g0,gl,g4⟩,gd,gf⟩:=hS;clear gH;obtain⟨c0,c1,c2,c3,c4,f0⟩:=cells5 g0.blk;have lsb:sb<wr.heap.size:=Ag c0;have g6:(padC d.counts j).length<=1048578:=by rw[Fa];omega
   have g9:=Hd g0;have gh:=Hd gd;have gJ:=Hd gf;have gZ:=Hd gl;have gX:=Hd g4
   by_cases hlt:(padC d.counts j).length<=id
   ·obtain⟨a,cap,hv,hy,gG,hn,_⟩:=g0.counts.slice;have g3:s2.vc=.slice a (padC d.counts j).length cap:=hv;rw[g3] at c3;have HJ:=Hd hj;have gw:RowR o2 wr .counts 3 1 (.slice a (padC d.counts j).length cap) (padC d.counts j).length ((padC d.counts j).map nat64):=by have:=g0.counts;rw[g3] at this;exact this
    have hw:0<gk:=by rw[Fa] at hlt;omega
    have gb:((padC d.counts j).length:Int)<=id:=by omega
    obtain⟨cl,g2⟩:∃ n,n=(padC d.counts j).length:=⟨_,rfl⟩;rw[<- g2] at g6 hlt gb c3 gw;have gO:=Hd gw;have hf:=Hd g2;clear g0 gd gf gl g4 hv g3 gw hj g2
    go_wp2_with (at_builtin
                 refine ES 22 3 1 8 _ underlying22 PS rfl (by decide) rfl _ _ rfl rfl rfl rfl (by simp) rfl (fun u hu=>by simp at hu;subst hu;rfl) gO.o gh.o (by omega) (by decide) ?_;intro g1 k1 w2 o3 gB gr g7;obtain⟨q0,q1,q2,q3,q4,fq⟩:=cells5 ((gr.same gh.o g9.o.own (by simp)).trans g9.o.blk);have h8:=Hd gB;have gx:=Hd gr;have hd:=Hd g7;clear gB gr g7 c0 c1 c2 c3 c4 f0)
    have gn:=h8.o;rw[show (padC d.counts j).map nat64++(#[Value.int .i64 0]:Array Value).toList=(padC d.counts (j+1)).map nat64 from by rw[PT,Xl];rfl] at gn;have e1:cl+1=(padC d.counts (j+1)).length:=by rw[hf.o,Fa,Fa];omega
    have gM:=Hd (g9.o.setVc (cs:=padC d.counts (j+1)) gh.o (by rw[<- e1];exact gn) gx.o);have h6:Hq (AddS o w sb { d with pool:=p',counts:=padC d.counts (j+1) } s.ts s.vt o3 (w2.setCell ⟨sb,3,none⟩ (.slice (some ⟨g1,0,none⟩) (cl+1) k1))):=⟨⟨_,gM.o,gZ.o,gX.o⟩,hd.o.mono (by simp[World.setCell]),(gJ.o.trans (gx.o.mono (fun r hr=>by simp[Al,hr]))).setCell (p:=⟨sb,3,none⟩) (gx.o.ext _ _ g9.o.own) (.inl rfl) _⟩;clear gn e1
    go_roundg (gk-1)
    case measure=>omega
    case rel=>exact⟨j+1,o3,h6.o,by have:=HJ.o;omega⟩
   ·have g5:id<(padC d.counts j).length:=by omega
    have gb:(id:Int)<(padC d.counts j).length:=by omega
    obtain⟨gc,cap,gi,gD,go,gT,gG,gE,ge⟩:=g0.countsAt g5;have g3:s2.vc=.slice (some ⟨gc,0,none⟩) (padC d.counts j).length cap:=gi;rw[g3] at c3;have gV:=ge _ g5;have gU:=gE id;have gK:sb≠gc:=fun e=>go e.symm
    have st3:=g0.setCount gi go id 0;have lt3:Ab o2 (wr.setCell ⟨gc,id,none⟩ (.int .i64 ((0:Nat):Int))):=gd.mono (by simp[World.setCell]);have st4:=st3.setDead lt3 (d.dead+1);have lt4:Ab o2 ((wr.setCell ⟨gc,id,none⟩ (.int .i64 ((0:Nat):Int))).setCell ⟨sb,4,none⟩ (.int .i64 ((d.dead+1:Nat):Int))):=lt3.mono (by simp[World.setCell]);have ch4:=(gf.setCell (p:=⟨gc,id,none⟩) gD (by simp[Al]) (.int .i64 ((0:Nat):Int))).setCell (p:=⟨sb,4,none⟩) g0.own (by simp[Al]) (.int .i64 ((d.dead+1:Nat):Int));have gF:d.dead<=1048577:=gy.o;have g8:(padC d.counts j).length<=9223372036854775807:=by omega
    obtain⟨W4,gs⟩:∃ W,W=(wr.setCell ⟨gc,id,none⟩ (.int .i64 ((0:Nat):Int))).setCell ⟨sb,4,none⟩ (.int .i64 ((d.dead+1:Nat):Int)):=⟨_,rfl⟩;rw[<- gs] at st4 lt4 ch4;have gu:Hq (W4=(wr.setCell ⟨gc,id,none⟩ (.int .i64 0)).setCell ⟨sb,4,none⟩ (.int .i64 ((d.dead:Int)+1))):=by
     show _=_
     rw[gs,show ((d.dead+1:Nat):Int)=(d.dead:Int)+1 from by omega];rfl
    have ga:=Hd st4;have gI:=Hd lt4;have hh:=Hd ch4;have he:=Hd g5;obtain⟨cl,g2⟩:∃ n,n=(padC d.counts j).length:=⟨_,rfl⟩;rw[<- g2] at gb c3 g6 g8;have gP:Hq ((padC d.counts j).length<=1048578):=by show _<=_;omega
    obtain⟨dn,gp⟩:∃ n,n=d.dead:=⟨_,rfl⟩;have c4':wr.cell? ⟨sb,4,none⟩=some (.int .i64 (dn:Nat)):=by rw[gp];exact c4
    rw[<- gp] at gF gu;clear g0 gd gf gl g4 gi gD go gT gG gE ge g3 st3 lt3 st4 lt4 ch4 gs hlt g5 c4 g2 gp g9 gh gJ hj;have gL:¬ ((cl:Int)<=id):=by omega
    go_upto_region 8 with fail;rw[<- gu.o];clear gu c0 c1 c2 c3 c4' f0 gV gU gK gb gL gF g6 g8;obtain⟨c0,c1,c2,c3,c4,f0⟩:=cells5 ga.o.blk;obtain⟨gt,ct,g4,cellv,gz⟩:=ga.o.tabAt (v:=v) HV.o;rw[g4] at c2;have gA:=ga.o.tab v (by rw[ga.o.tlen];exact HV.o);have gv:=Hd (Kt o2 v (s2.ts.getD v 0) (d.tab v) lo hi id W4 gA gI.o HT.o);have hk:(v:Int)<s2.ts.length:=by omega
    obtain⟨tv,gj⟩:∃ t,t=s2.ts.getD v 0:=⟨_,rfl⟩;rw[<- gj] at cellv gv;have gY:=Hd gj;have hq:s2.ts.length<=9223372036854775807:=gz.2;clear gA gj g4 gz;go_wp2_with fail;refine gv.o.mono ?_;rintro x w5 ⟨rfl,gm,gq,gC⟩;rw[gY.o] at gm;have h0:=Hd (ga.o.setTab gI.o gm gq);have ha:=Hd gC;have hg:=Hd (hh.o.trans (gq.mono (fun r hr=>by simp[Al,hr])));clear gm gq gC c0 c1 c2 c3 c4 f0 cellv;go_wp2_with fail
    go_ret2
    exact .inr ⟨id,d.added p' (padC d.counts j) id v lo hi,o2,rfl,⟨s2,h0.o⟩,ha.o,gN.o p' id j HR.o he.o gP.o,hg.o⟩
def levN (d:Ae)(v:Nat):Nat:=d.level.getD v 0
structure Ai (d:Ae)(V:Nat->BF):Prop where
 dag:Dag d.vars.length (levN d) (Aa d) V
 live:A7 d (Ak d)
 tab:∀ v,v<d.vars.length->∀ lo hi id,d.tab v (lo,hi)=some id↔Aa d id=some ⟨v,lo,hi⟩
 clen:d.counts.length<=1048578
 small:d.vars.length<=64
 inv:∀ v,v<d.vars.length->d.vars.getD (levN d v) 0=v
 vlt:∀ i,i<d.vars.length->d.vars.getD i 0<d.vars.length/\levN d (d.vars.getD i 0)=i
structure Ext (d:Ae)(V:Nat->BF)(d':Ae)(V':Nat->BF):Prop where
 vars:d'.vars=d.vars
 level:d'.level=d.level
 room:d'.pool.room=d.pool.room
 nodes:∀ i b,Aa d i=some b->Aa d' i=some b
 val:∀ i,(i=0\/∃ b,Aa d i=some b)->V' i=V i
 ext:∀ i b,Aa d i=some b->Ak d' i=Ak d i
 ext0:∀ i,Aa d i=none->Ak d' i=0
 many:d.pool.many<=d'.pool.many
theorem Et (h:Aa d i=none):Ak d i=0:=by unfold Ak;rw[Ix h];simp
theorem Ext.refl (d:Ae)(V:Nat->BF):Ext d V d V:=⟨rfl,rfl,rfl,fun _ _ h=>h,fun _ _=>rfl,fun _ _ _=>rfl,fun _ h=>Et h,WM _⟩
theorem Ext.trans {d d' d'':Ae}{V V' V'':Nat->BF}(h:Ext d V d' V')(h':Ext d' V' d'' V''):Ext d V d'' V'':=by
 refine⟨h'.vars.trans h.vars,h'.level.trans h.level,h'.room.trans h.room,fun i b hb=>h'.nodes i b (h.nodes i b hb),fun i hi=>?_,fun i b hb=>?_,fun i hi=>?_,WU h.many h'.many⟩
 . rw[h'.val i (hi.imp id fun⟨b,hb⟩=>⟨b,h.nodes i b hb⟩)];exact h.val i hi
 . rw[h'.ext i b (h.nodes i b hb)];exact h.ext i b hb
 ·cases e:Aa d' i with
  | none=>exact h'.ext0 i e
  | some b=>rw[h'.ext i b e];exact h.ext0 i hi
section
theorem Ext.ok (h:Ext d V d' V')(he:okE (Aa d) e):okE (Aa d') e:=he.imp id fun⟨b,hb⟩=>⟨b,h.nodes _ b hb⟩
theorem Ext.ef (h:Ext d V d' V'){e:Nat}(he:okE (Aa d) e):ef V' e=ef V e:=by
 funext ρ;unfold Go.Proofs.YtgmbklaolcmljaaGreat.ef;rw[h.val (e/2) he]
theorem Ext.lev (h:Ext d V d' V'):levN d'=levN d:=by funext v;unfold levN;rw[h.level]
theorem Ext.lvE (h:Ext d V d' V'){n:Nat}{e:Nat}(he:okE (Aa d) e)(h0:Aa d 0=none)(h0':Aa d' 0=none):lvE n (levN d') (Aa d') e=lvE n (levN d) (Aa d) e:=by
 unfold Go.Proofs.YtgmbklaolcmljaaGreat.lvE;rw[h.lev];rcases he with he|⟨b,hb⟩
 . rw[he,h0,h0']
 . rw[hb,h.nodes _ b hb]
theorem PW {v:Nat}(h:Ai d V)(r:DQ d d' id v lo hi)(hv:v<d.vars.length)(hlo:okE (Aa d) lo)(hhi:okE (Aa d) hi)
 (llo:levN d v<lvE d.vars.length (levN d) (Aa d) lo) (lhi:levN d v<lvE d.vars.length (levN d) (Aa d) hi) (hr:hi%2=0) (hne:lo≠hi) (ht:d.tab v (lo,hi)=none) :
 Ai d' (addV V id ⟨v,lo,hi⟩)/\Ext d V d' (addV V id ⟨v,lo,hi⟩):=by
 have g1:∀ i,Aa d i≠some ⟨v,lo,hi⟩:=fun i e=>by rw[(h.tab v hv lo hi i).2 e] at ht;cases ht
 have hl:levN d'=levN d:=by funext u;unfold levN;rw[r.level]
 have hid:id≠0:=by have:=r.pos;omega
 refine⟨⟨?_,r.live,fun u hu lo' g0 i=>?_,r.clen,by rw[r.vars];exact h.small,?_,?_⟩,⟨r.vars,r.level,r.room,fun i b hb=>?_,fun i g0=>?_,fun i b hb=>?_,fun i g0=>?_,by rw[r.many];omega⟩⟩
 . rw[r.vars,hl,r.nodes];exact h.dag.add r.none hid hv hlo hhi llo lhi hr hne g1
 ·rw[r.vars] at hu;rw[r.tab,r.nodes];dsimp only
  by_cases e:u=v
  ·subst e;rw[WR rfl];unfold putF
   by_cases e2:(lo',g0)=(lo,hi)
   ·cases e2;rw[WR rfl];constructor
    . intro e3;cases e3;rw[BQ]
    ·intro e3
     by_cases e4:i=id
     . rw[e4]
     . rw[Bc _ e4] at e3;exact absurd e3 (g1 i)
   ·rw[WO e2,h.tab u hu]
    by_cases e4:i=id
    ·subst e4;rw[BQ,r.none];constructor
     . intro e5;cases e5
     . intro e5;cases e5;exact absurd rfl e2
    . rw[Bc _ e4]
  ·rw[WO e,h.tab u hu]
   by_cases e4:i=id
   ·subst e4;rw[BQ,r.none];constructor
    . intro e5;cases e5
    . intro e5;cases e5;exact absurd rfl e
   . rw[Bc _ e4]
 . rw[r.vars,hl];exact h.inv
 . rw[r.vars,hl];exact h.vlt
 . rw[r.nodes];exact GU r.none hb
 ·unfold addV;rw[WO];rintro rfl;rcases g0 with g0|⟨b,hb⟩
  . exact hid g0
  . rw[r.none] at hb;cases hb
 . rw[r.ext];dsimp only;rw[WO];rintro rfl;rw[r.none] at hb;cases hb
 ·rw[r.ext];dsimp only;split
  . rfl
  . exact Et g0
theorem KH (h:Ai d V){v:Nat}(hb:Aa d id=some ⟨v,eflip lo (eneg hi),eflip hi (eneg hi)⟩):ef V (eflip (2*id) (eneg hi))=iteF v (ef V hi) (ef V lo):=by
 funext ρ;have h1:=h.dag.eqn id _ hb;have h2:ef V (2*id)=V id:=by
  funext ρ;have e1:2*id/2=id:=by omega
  have e2:2*id%2=0:=by omega
  simp[ef,e1,e2]
 rw[Cu,h2,h1];simp only[iteF];rw[Cu,Cu];cases ρ v<;>cases eneg hi<;>simp
theorem KI (hi:Nat):eflip hi (eneg hi)%2=0:=by
 unfold eflip eneg;rcases XN hi with h|h
 . simp[h]
 . simp[h,FA]
theorem FX {b:Bool}(h:lo≠hi):eflip lo b≠eflip hi b:=by
 unfold eflip;cases b
 . simpa using h
 . simp only[XP];intro e;have:=X3 enot e;rw[Kg,Kg] at this;exact h this
theorem D5 {lev:Nat->Nat}{b:Bool}:lvE n lev N (eflip e b)=lvE n lev N e:=by unfold lvE;rw[Db]
end
def Cy (d:Ae)(v:Int):Int:=if 0<=v/\v<d.level.length then (levN d v.toNat:Nat) else -1
theorem PX (d:Ae)(v:Nat):Cy d v=d.levelOf v:=by
 unfold Cy Ae.levelOf levN
 by_cases h:v<d.level.length
 . rw[WR ⟨by omega,by omega⟩,WR h];rfl
 . rw[WO (by omega),WO h]
theorem PY {o:Own}(h:Ao o w sb d s)(v:Int)(hv:v<0) :
 Calls prog 153 #[Pt s.lb,.int .i64 v] w (Sm (.int .i64 (-1)) w):=by
 clear h
 delta Pt;go_enter func153,ntmps153
 go_wp2_with fail;go_ret;exact⟨rfl,rfl⟩
theorem PZ {o:Own}(h:Ao o w sb d s)(v:Int)(hv:v<0) :
 Calls prog 114 #[Pt sb,.int .i64 v] w (Sm (.int .i64 (-1)) w):=by
 obtain⟨c0,c1,c2,c3,c4,f0⟩:=cells5 h.blk;have HC:=Hd (PY h v hv);clear h hv
 delta Pt;go_enter func114,ntmps114
 go_wp2_with fail;refine HC.o.mono ?_;rintro x w' ⟨rfl,rfl⟩;go_wp2_with fail;go_ret;exact⟨rfl,rfl⟩
theorem I3 {o:Own}(h:Ao o w sb d s)(v:Int)(hbig:d.level.length<1000000) :
 Calls prog 114 #[Pt sb,.int .i64 v] w (Sm (.int .i64 (Cy d v)) w):=by
 by_cases h0:v<0
 ·have e:Cy d v = -1:=by unfold Cy;rw[WO (by omega)]
  rw[e];exact PZ h v h0
 . obtain⟨n,rfl⟩:=Int.eq_ofNat_of_zero_le (by omega:0<=v);have e:=PX d n;rw[e];exact It h n hbig
def I4 (o:Own)(w:Wd)(sb:Nat)(d:Ae)(V:Nat->BF)(v:Int)(lo hi:Nat)(e:Ending)(w':Wd):Prop :=
 (¬ (0<=v/\v<d.vars.length)/\e=.returned (.tuple #[.int .i64 0,.int .i64 9])/\Bw w w') \/
 (0<=v/\v<d.vars.length/\(lvE d.vars.length (levN d) (Aa d) lo<=levN d v.toNat\/lvE d.vars.length (levN d) (Aa d) hi<=levN d v.toNat)/\e=.returned (.tuple #[.int .i64 0,.int .i64 10])/\Bw w w') \/
 (d.pool.many=d.pool.room/\e=.returned (.tuple #[.int .i64 0,.int .i64 7])/\Bw w w') \/
 (0<=v/\v<d.vars.length/\∃ r d' V' o',e=.returned (.tuple #[.int .i64 (r:Nat),.int .i64 0])/\Ay o' w' sb d'/\Ab o' w'/\Ai d' V'/\Ext d V d' V'/\okE (Aa d') r /\
  ef V' r=iteF v.toNat (ef V hi) (ef V lo)/\levN d v.toNat<=lvE d.vars.length (levN d') (Aa d') r/\d'.pool.many<=d.pool.many+1/\Chg Al o o' w w')
theorem Qa {o:Own}(h:Ao o w sb d s)(hk:Ai d V)(hf:okE (Aa d) f){lv:Nat}(hl:lv<d.vars.length) :
 (decide (enode f=0)||(d.pool.tk (enode f)&&decide ((lv:Int)<d.levelOf (d.pool.has (enode f)).v)))=decide (lv<lvE d.vars.length (levN d) (Aa d) f):=by
 unfold lvE;rcases hf with h0|⟨b,hb⟩
 . have e:enode f=0:=h0;rw[h0,hk.dag.none0,e];simp[hl]
 ·have hn:=BA (i:=enode f) hb;have e0:enode f≠0:=by have:=(h.tk_lt (i:=enode f) hb).1;omega
  rw[hb,hn.1];have hv:(d.pool.has (enode f)).v=b.v:=by rw[<- hn.2.2];rfl
  have g0:=hk.dag.var _ _ hb;rw[hv];unfold Ae.levelOf;rw[WR (by rw[h.len];exact g0)];simp[e0,levN]
theorem KJ (hf:okE (Aa d) f):(decide (enode f=0)||d.pool.tk (enode f))=true:=by
 rcases hf with h0|⟨b,hb⟩
 . have e:enode f=0:=h0;simp[e]
 . rw[(BA (i:=enode f) hb).1];simp
theorem Qb {o:Own}(h:Ao o w sb d s)(hk:Ai d V)(v:Int)(lo hi:Nat)(hv:¬ (0<=v/\v<d.vars.length)) :
 Calls prog 156 #[Pt sb,.int .i64 v,.int .i64 lo,.int .i64 hi] w (I4 o w sb d V v lo hi):=by
 have g0:=Hd (I3 h v (by rw[h.len];have:=hk.small;omega));have e:Cy d v = -1:=by unfold Cy;rw[WO (by rw[h.len];exact hv)]
 rw[e] at g0;have HV:=Hd hv;clear h hk e hv
 delta Pt;go_enter func156,ntmps156
 go_wp2_with fail;refine g0.o.mono ?_;rintro x w' ⟨rfl,rfl⟩;go_wp2_with fail
 go_ret2
 exact .inl ⟨HV.o,rfl,Xd _ _⟩
section
variable {o:Own}
abbrev YR:=@of_decide_eq_true
abbrev X6:=@results_tmp2
theorem Qc (h:Ao o w sb d s)(hlt:Ab o w)(hk:Ai d V)(v lo hi:Nat)(hv:v<d.vars.length)(hlo:okE (Aa d) lo)(hhi:okE (Aa d) hi){P:Ending->Wd->Prop}
 (h1:¬ (levN d v<lvE d.vars.length (levN d) (Aa d) lo/\levN d v<lvE d.vars.length (levN d) (Aa d) hi)->∀ W,Bw w W->P (.returned (.tuple #[.int .i64 0,.int .i64 10])) W)
 (h2:levN d v<lvE d.vars.length (levN d) (Aa d) lo->levN d v<lvE d.vars.length (levN d) (Aa d) hi->(lo=hi->∀ W,Bw w W->P (.returned (.tuple #[.int .i64 (lo:Nat),.int .i64 0])) W) /\
  (lo≠hi->(∀ id,d.tab v (eflip lo (eneg hi),eflip hi (eneg hi))=some id->∀ W,Bw w W->P (.returned (.tuple #[.int .i64 (eflip (2*id) (eneg hi):Nat),.int .i64 0])) W) /\
   (d.tab v (eflip lo (eneg hi),eflip hi (eneg hi))=none->(∀ W,Bw w W->d.pool.many=d.pool.room->P (.returned (.tuple #[.int .i64 0,.int .i64 7])) W) /\
    ∀ W W' id d' o',Bw w W->Ay o' W' sb d'->Ab o' W'->DQ d d' id v (eflip lo (eneg hi)) (eflip hi (eneg hi))->Chg Al o o' W W'->P (.returned (.tuple #[.int .i64 (eflip (2*id) (eneg hi):Nat),.int .i64 0])) W'))) :
 Calls prog 156 #[Pt sb,.int .i64 v,.int .i64 lo,.int .i64 hi] w P:=by
 have gz:levN d v<d.vars.length:=hk.dag.lt v hv;have gI:=h.edge_lt hlo;have gJ:=h.edge_lt hhi;have ga:lo<eMax:=by unfold eMax;omega
 have gd:hi<eMax:=by unfold eMax;omega
 have gb:d.level.length<1000000:=by rw[h.len];have:=hk.small;omega
 obtain⟨bl,gf⟩:∃ b,b=decide (levN d v<lvE d.vars.length (levN d) (Aa d) lo):=⟨_,rfl⟩;obtain⟨bh,gg⟩:∃ b,b=decide (levN d v<lvE d.vars.length (levN d) (Aa d) hi):=⟨_,rfl⟩;have g7:Hq (∀ W:Wd,Bw w W->Calls prog 114 #[Pt sb,.int .i64 v] W (Sm (.int .i64 (levN d v:Nat)) W)):=fun W hb=>by
  have h1:=It (h.below hlt hb) v gb;unfold Ae.levelOf at h1;rw[WR (by rw[h.len];exact hv)] at h1;exact h1
 have gv:Hq (∀ W (f:Nat),Bw w W->okE (Aa d) f->Calls prog 155 #[Pt sb,.int .i64 f] W (Bl (.bool true) W)):=fun W f hb hf=>by
  have gL:=h.edge_lt hf;have h1:=Er (h.below hlt hb) (hlt.mono hb.size) f (by unfold eMax;omega);rw[KJ hf] at h1;exact h1
 have gm:Hq (∀ W (f:Nat),Bw w W->okE (Aa d) f->Calls prog 178 #[Pt sb,.int .i64 f,.int .i64 (levN d v:Nat)] W (Bl (.bool (decide (levN d v<lvE d.vars.length (levN d) (Aa d) f))) W)):=fun W f hb hf=>by
  have gL:=h.edge_lt hf;have h1:=PC (h.below hlt hb) (hlt.mono hb.size) f (by unfold eMax;omega) (levN d v:Nat) gb;rw[Qa h hk hf gz] at h1;exact h1
 have gh:=Hd fun W hb=>gm.o W lo hb hlo
 have gi:=Hd fun W hb=>gm.o W hi hb hhi
 have gs:=Hd fun W hb=>gv.o W lo hb hlo
 have gu:=Hd fun W hb=>gv.o W hi hb hhi
 rw[<- gf] at gh;rw[<- gg] at gi;have gr:Hq ((bl&&bh)=false->∀ W,Bw w W->P (.returned (.tuple #[.int .i64 0,.int .i64 10])) W):=Hd fun e=>h1 fun c=>by
  rw[gf,gg,XA c.1,XA c.2] at e;cases e
 have gq:Hq (bl=true->bh=true->_):=Hd fun e1 e2=>h2 (YR (by rw[<- gf];exact e1)) (YR (by rw[<- gg];exact e2))
 obtain⟨l,hl⟩:=Ex (levN d v);rw[<- hl] at g7 gh gi;have gQ:¬ ((l:Nat):Int)<0:=by omega
 have HH:=Hd h;have g8:=Hd hlt;have HV:=Hd hv;have HK:=Hd hk;clear h hlt hk hv hlo hhi gz gI gJ gb hl h1 h2 gf gg gm gv
 delta Pt;go_enter func156,ntmps156
 go_wp2_with fail;refine(g7.o _ (Xd _ _)).mono ?_;rintro x w' ⟨rfl,rfl⟩;go_wp2_with fail;refine(gs.o _ (Xd _ _)).mono ?_;rintro x w1 ⟨rfl,gG⟩;have gw:=Hd gG;clear gG;go_wp2_with fail;refine(gu.o _ gw.o).mono ?_;rintro x w2 ⟨rfl,gF⟩;have HB2:=Hd (gw.o.trans (gF.mono gw.o.size));clear gF;go_wp2_with fail;refine(g7.o _ HB2.o).mono ?_;rintro x w' ⟨rfl,rfl⟩;go_wp2_with fail;refine(gh.o _ HB2.o).mono ?_;rintro x w3 ⟨rfl,gE⟩;have g9:=Hd (HB2.o.trans (gE.mono HB2.o.size));clear gE;cases bl with
 | false =>
   go_wp2_with fail;have HZ:=Hd (gr.o (by first|rfl|trivial) _ g9.o)
   first|exact HZ.o|exact Xc (X6 rfl _ _ _) rfl HZ.o
 | true =>
   go_wp2_with fail;refine(g7.o _ g9.o).mono ?_;rintro x w' ⟨rfl,rfl⟩;go_wp2_with fail;refine(gi.o _ g9.o).mono ?_;rintro x w4 ⟨rfl,gD⟩;have g0:=Hd (g9.o.trans (gD.mono g9.o.size));clear gD;cases bh with
   | false =>
     go_wp2_with fail;have HZ:=Hd (gr.o (by first|rfl|trivial) _ g0.o)
     first|exact HZ.o|exact Xc (X6 rfl _ _ _) rfl HZ.o
   | true =>
     have gp:=Hd (gq.o (by first|rfl|trivial) (by first|rfl|trivial)).1;have gk:=Hd (gq.o (by first|rfl|trivial) (by first|rfl|trivial)).2;clear gr gq g7 gs gu gh gi
     by_cases he:lo=hi
     ·subst he;have HF:=Hd (gp.o rfl _ g0.o);clear gk gp;go_wp2_with fail
      first|exact HF.o|exact Xc (X6 rfl _ _ _) rfl HF.o
     ·have go:=Hd (gk.o he).1;have gj:=Hd (gk.o he).2;have gO:((lo:Int) == hi)=false:=by simp;omega
      have g1:=Hd (fun W=>GW lo hi W ga gd);have gl:=Hd (fun id W (hh:id<2305843009213693952)=>GX id (eneg hi) W hh);obtain⟨gt,ct,gy,cellv,gK,gP⟩:=(HH.o.below g8.o g0.o).tabAt HV.o;obtain⟨c0,c1,c2,c3,c4,f0⟩:=cells5 (HH.o.below g8.o g0.o).blk;rw[gy] at c2;have gN:(v:Int)<s.ts.length:=by omega
      have ge:=(HH.o.below g8.o g0.o).tab v gK;clear gy gk gp;cases ht:d.tab v (eflip lo (eneg hi),eflip hi (eneg hi)) with
      | some id =>
        have gc:=(HH.o.tk_lt ((HK.o.tab v HV.o _ _ id).1 ht)).2;have g4:=Hd (Ip o v (s.ts.getD v 0) (d.tab v) (eflip lo (eneg hi)) (eflip hi (eneg hi)) id _ ge ht);have HF:=Hd (go.o id ht _ g0.o);have gH:=Hd (fun W=>gl.o id W (by omega));obtain⟨tv,g5⟩:∃ t,t=s.ts.getD v 0:=⟨_,rfl⟩;rw[<- g5] at cellv g4;obtain⟨lo2,g2⟩:∃ x,x=eflip lo (eneg hi):=⟨_,rfl⟩;obtain⟨gB,g3⟩:∃ x,x=eflip hi (eneg hi):=⟨_,rfl⟩;obtain⟨ng,g6⟩:∃ x,x=eneg hi:=⟨_,rfl⟩;rw[<- g2,<- g3] at g1 g4;rw[<- g6] at g1 gH HF;clear ge g5 ht gc gl go gj g2 g3 g6 ga gd he;go_wp2_with fail;refine(g1.o _).mono ?_;rintro x w' ⟨rfl,rfl⟩;go_wp2_with fail;refine g4.o.mono ?_;rintro x w' ⟨rfl,rfl⟩;go_wp2_with fail;refine(gH.o _).mono ?_;rintro x w' ⟨rfl,rfl⟩;go_wp2_with fail
        first|exact HF.o|exact Xc (X6 rfl _ _ _) rfl HF.o
      | none =>
        have g4:=Hd (Iq o v (s.ts.getD v 0) (d.tab v) (eflip lo (eneg hi)) (eflip hi (eneg hi)) _ ge ht);have gx:=Hd (KG (HH.o.below g8.o g0.o) (g8.o.mono g0.o.size) HK.o.live (fun i b hb=>⟨HK.o.dag.okLo i b hb,HK.o.dag.okHi i b hb⟩) v (eflip lo (eneg hi)) (eflip hi (eneg hi)) HV.o ht HK.o.clen);have gM:=Hd (gj.o ht).1;have gn:=Hd (gj.o ht).2;obtain⟨tv,g5⟩:∃ t,t=s.ts.getD v 0:=⟨_,rfl⟩;rw[<- g5] at cellv g4;obtain⟨lo2,g2⟩:∃ x,x=eflip lo (eneg hi):=⟨_,rfl⟩;obtain⟨gB,g3⟩:∃ x,x=eflip hi (eneg hi):=⟨_,rfl⟩;obtain⟨ng,g6⟩:∃ x,x=eneg hi:=⟨_,rfl⟩;rw[<- g2,<- g3] at g1 g4 gx gn;rw[<- g6] at g1 gl gn;clear ge g5 ht go gj g2 g3 g6 ga gd he;go_wp2_with fail;refine(g1.o _).mono ?_;rintro x w' ⟨rfl,rfl⟩;go_wp2_with fail;refine g4.o.mono ?_;rintro x w' ⟨rfl,rfl⟩;go_wp2_with fail;refine gx.o.mono ?_;rintro x w6 (⟨hm,rfl,gC⟩|⟨id,d',o',rfl,hs,gA,hr,hc⟩)
        ·have HF:=Hd (gM.o _ (g0.o.trans (gC.mono g0.o.size)) hm);clear hm gC c0 c1 c2 c3 c4 f0 cellv;go_wp2_with fail
         first|exact HF.o|exact Xc (X6 rfl _ _ _) rfl HF.o
        ·have HF:=Hd (gn.o _ _ id d' o' g0.o hs gA hr hc);have gc:id<2305843009213693952:=by
          obtain⟨s',hs'⟩:=hs;have:=hs'.tk_lt (i:=id) (b:=⟨v,lo2,gB⟩) (by rw[hr.nodes,BQ]);omega
         clear hs gA hr hc c0 c1 c2 c3 c4 f0 cellv;go_wp2_with fail;refine(gl.o _ _ gc).mono ?_;rintro x w' ⟨rfl,rfl⟩;go_wp2_with fail
         first|exact HF.o|exact Xc (X6 rfl _ _ _) rfl HF.o
abbrev Y5:=@Int.toNat_natCast
theorem Qd (h:Ay o w sb d)(hlt:Ab o w)(hk:Ai d V)(v:Int)(lo hi:Nat)(hlo:okE (Aa d) lo)(hhi:okE (Aa d) hi) :
 Calls prog 156 #[Pt sb,.int .i64 v,.int .i64 lo,.int .i64 hi] w (I4 o w sb d V v lo hi):=by
 obtain⟨s,h⟩:=h
 by_cases g1:0<=v/\v<d.vars.length
 ·obtain⟨n,rfl⟩:=Int.eq_ofNat_of_zero_le g1.1;have hv:n<d.vars.length:=by omega
  refine Qc h hlt hk n lo hi hv hlo hhi (fun c W hb=>.inr (.inl ⟨by omega,by omega,by rw[Y5];omega,rfl,hb⟩)) fun g2 g3=>⟨fun he W hb=>?_,fun he=>⟨fun id hid W hb=>?_,fun hid=>⟨fun W hb hm=>.inr (.inr (.inl ⟨hm,rfl,hb⟩)),fun W W' id d' o' hb hs hl hr hc=>?_⟩⟩⟩
  . subst he;exact .inr (.inr (.inr ⟨by omega,by omega,lo,d,V,o,rfl,⟨s,h.below hlt hb⟩,hlt.mono hb.size,hk,Ext.refl d V,hlo,by funext ρ;simp[iteF],Nat.le_of_lt g2,by omega,Chg.of_below hb _ _⟩))
  ·have g0:=(hk.tab n hv _ _ id).1 hid
   exact .inr (.inr (.inr ⟨by omega,by omega,_,d,V,o,rfl,⟨s,h.below hlt hb⟩,hlt.mono hb.size,hk,Ext.refl d V,Dc (Dq g0),
    KH hk g0,by rw[D5];unfold lvE;rw[show 2*id/2=id from by omega,g0];exact WM _,by omega,Chg.of_below hb _ _⟩))
  ·obtain⟨h1,h2⟩:=PW hk hr hv (Dc hlo) (Dc hhi) (by rw[D5];exact g2) (by rw[D5];exact g3) (KI hi) (FX he) hid;have g0:Aa d' id=some ⟨n,eflip lo (eneg hi),eflip hi (eneg hi)⟩:=by rw[hr.nodes,BQ]
   refine .inr (.inr (.inr ⟨by omega,by omega,_,d',_,o',rfl,hs,hl,h1,h2,Dc (Dq g0),?_,?_,by rw[hr.many];omega,(Chg.of_below hb _ _).trans hc⟩))
   . rw[KH h1 g0,h2.ef hlo,h2.ef hhi];rfl
   . rw[D5,h2.lev];unfold lvE;rw[show 2*id/2=id from by omega,g0];exact WM _
 . exact Qb h hk v lo hi g1
end
theorem Qe {o:Own}(h:OwnI w' w.heap.size v zs)(hb:Bw w w')(hlt:Ab o w)(r:Role) :
 ∃ o',RowR o' w' r 3 1 v zs.length (As zs)/\Chg (· = r) o o' w w'/\Ab o' w':=by
 obtain⟨hl,h2⟩:=h;rcases h2 with ⟨h1,h0⟩|⟨g,cap,cur,h1,h2,h3,h4,h5,h6,h7⟩
 . exact⟨o,⟨hl,.inl ⟨h1,h0⟩⟩,Chg.of_below hb _ _,hlt.mono hb.size⟩
 ·have hg:g<w'.heap.size:=(WL.1 h3).1;refine⟨AB o g r,⟨hl,.inr ⟨g,cap,cur,h1,Br _ _ _,h3,h4,h5,by omega,h7⟩⟩,⟨hb.os,hb.tape,hb.output,hb.size,fun k hk _=>hb.block k hk,fun k q hq=>CK hlt h2 hq,fun k hk=>?_⟩,fun k q hq=>?_⟩
  ·by_cases e:k=g
   . subst e;exact⟨h2,r,Br _ _ _,rfl⟩
   . exact absurd (by simp[AB,e]) hk
  ·by_cases e:k=g
   . subst e;exact hg
   . simp only[AB,WO e] at hq;have:=hlt k q hq;have:=hb.size;omega
theorem KK (o:Own)(n:Nat)(hn:n<=64)(r:Role)(w:Wd)(hlt:Ab o w) :
 Calls prog 121 #[.int .i64 n] w fun e w'=>∃ v o',e=.returned v/\RowR o' w' r 3 1 v n ((List.range n).map nat64)/\Chg (· = r) o o' w w'/\Ab o' w' :=
 (OK n w).mono fun e w' ⟨v,h1,h2,h3⟩=>by
  obtain⟨o',a,b,c⟩:=Qe h2 h3 hlt r;have e1:EN n=iota n:=by unfold EN;congr 1;omega
  have e2:As (iota n)=(List.range n).map nat64:=by simp[As,iota,nat64]
  rw[e1,F7,e2] at a;exact⟨v,o',h1,a,b,c⟩
def store0 (n room:Nat):Ae:=⟨List.range n,List.range n,pool0 room,fun _ _=>none,[],0⟩
structure NewS (o:Own)(w:Wd)(n room sb:Nat)(s:B9)(j:Nat)(o1:Own)(wx:Wd):Prop where
 own:o1 sb=some .store
 ownl:o1 s.lb=some .levels
 blk:wx.heap[sb]?=some (.cells #[.pointer (some ⟨s.lb,0,none⟩),.pointer (some ⟨s.pb,0,none⟩),s.vt,.slice none 0 0,.int .i64 0] 188 (0,0))
 lev:wx.heap[s.lb]?=some (.cells #[s.vv,s.vl] 185 (0,0))
 vars:RowR o1 wx .vars 3 1 s.vv n ((List.range n).map nat64)
 level:RowR o1 wx .level 3 1 s.vl n ((List.range n).map nat64)
 pool:Aq o1 wx s.pb (pool0 room)
 tabs:RowR o1 wx .tabs 189 1 s.vt j (s.ts.map ptrV)
 tl:s.ts.length=j
 tab:∀ v,v<j->AJ o1 wx v (s.ts.getD v 0) (fun _=>none)
 chg:Chg Al o o1 w wx
 lt:Ab o1 wx
 ge:w.heap.size<=sb
theorem NewS.done {o:Own}(h:NewS o w n room sb s n o1 wx):Ay o1 wx sb (store0 n room) :=
 ⟨{ s with vc:=.slice none 0 0 },h.own,h.ownl,h.blk,h.lev,by simpa [store0] using h.vars,by simpa [store0] using h.level,h.pool,by rw[h.tl];exact h.tabs,fun v hv=>h.tab v (by rw[<- h.tl];exact hv),RowR.nil _ _ _ _ _,rfl,by simp[store0,h.tl]⟩
theorem NewS.grown {o o3:Own}{wy wz:Wd}{t:Nat}(h:NewS o w n room sb s j o1 wx)(ht:AJ o2 wy j t (fun _=>none))(hc:Chg (fun r=>r=.tab j\/r=.tmap j) o1 o2 wx wy)(hl:Ab o2 wy)
 (hr:RowR o3 wz .tabs 189 1 (.slice (some ⟨g,0,none⟩) (j+1) cap) (j+1) (s.ts.map ptrV++[ptrV t])) (hc2:Chg (· = .tabs) o2 o3 wy wz) (hl2:Ab o3 wz) :
 NewS o w n room sb { s with vt:=.slice (some ⟨g,0,none⟩) (j+1) cap,ts:=s.ts++[t] } (j+1) o3 (wz.setCell ⟨sb,2,none⟩ (.slice (some ⟨g,0,none⟩) (j+1) cap)):=by
 have g0:Chg (fun r=>r=.tab j\/r=.tmap j\/r=.tabs) o1 o3 wx wz:=(hc.mono fun r e=>by rcases e with e|e;exact .inl e;exact .inr (.inl e)).trans (hc2.mono fun r e=>.inr (.inr e));have g1:=g0.ext _ _ h.own;have ne:∀ {a r},o3 a=some r->r ≠ .store->a≠sb:=fun ha hr e=>by subst e;rw[ha] at g1;cases g1;exact hr rfl
 have g3:=g0.ext _ _ h.ownl;have row:∀ {r e k v m xs},RowR o1 wx r e k v m xs->r ≠ .store->¬ (r=.tab j\/r=.tmap j\/r=.tabs)->RowR o3 (wz.setCell ⟨sb,2,none⟩ (.slice (some ⟨g,0,none⟩) (j+1) cap)) r e k v m xs:=fun hr h1 h2 =>
  (hr.chg g0 h.lt h2).setCell_other (p:=⟨sb,2,none⟩) (by rw[g1];intro e;cases e;exact h1 rfl) _
 have ctab:∀ v t f,AJ o3 wz v t f->AJ o3 (wz.setCell ⟨sb,2,none⟩ (.slice (some ⟨g,0,none⟩) (j+1) cap)) v t f:=fun v t f hT =>
  hT.keep (fun q r hq g2=>Aw (ne hq (by rintro rfl;rcases g2 with e|e<;>cases e)) _) (fun _ _ h=>h)
 refine⟨g1,g3,Az ((g0.same h.lt h.own (by simp)).trans h.blk) _,(Aw (ne g3 (by simp)) _).trans ((g0.same h.lt h.ownl (by simp)).trans h.lev),row h.vars (by simp) (by simp),row h.level (by simp) (by simp),?_,?_,by simp[h.tl],fun v hv=>?_,?_,hl2.mono (by simp[World.setCell]),h.ge⟩
 . have hp:=h.pool.chg g0 h.lt (by simp) (by simp) (by simp) (by simp);exact hp.keep (fun q r hq g2=>Aw (ne hq (by rintro rfl;rcases g2 with e|e|e|e<;>cases e)) _) (fun _ _ h=>h)
 . have:=hr.setCell_other (p:=⟨sb,2,none⟩) (by rw[g1];simp) (.slice (some ⟨g,0,none⟩) (j+1) cap);simpa using this
 ·dsimp only;refine ctab _ _ _ ?_
  by_cases e:v=j
  ·subst e;have e2:(s.ts++[t]).getD v 0=t:=by simp[List.getD,h.tl]
   rw[e2];exact ht.chg hc2 hl (by simp) (by simp)
  ·have e2:(s.ts++[t]).getD v 0=s.ts.getD v 0:=by
    have:=h.tl;simp[List.getD,Xj (show v<s.ts.length by omega)]
   rw[e2];exact(h.tab v (by omega)).chg g0 h.lt (by simp[e]) (by simp[e])
 . exact(h.chg.trans (g0.mono fun r e=>by rcases e with rfl|rfl|rfl<;>simp[Al])).setCell (p:=⟨sb,2,none⟩) g1 (by simp[Al]) _
theorem Qf:(prog.info? 189).map (fun i=>(i.zero,i.size,i.bytes))=some (some (.pointer none),1,8):=by kernel_rfl
theorem Qg (o:Own)(n room:Nat)(w:Wd)(hlt:Ab o w)(hn:n<=64)(h1:1<=room)(h2:room<=1048576) :
 Calls prog 60 #[.int .i64 n,.int .i64 room] w fun x w'=>∃ sb o',x=.returned (.tuple #[.pointer (some ⟨sb,0,none⟩),.int .i64 0])/\Ay o' w' sb (store0 n room)/\Chg Al o o' w w'/\Ab o' w'/\w.heap.size<=sb:=by
 have gK:(n:Int)<=64:=by omega
 have gJ:(0:Int)<=n:=by omega
 have HP:=Hd (P6 o room w hlt h1 h2);clear hlt h1 h2
 go_enter func60,ntmps60
 go_wp2_with fail;refine HP.o.mono ?_;rintro x w1 ⟨pb,o1,rfl,gp,gu,gh,gI⟩;have gB:=Hd (KK o1 n hn .vars w1 gh);have gz:=Hd gh;have gy:=Hd gp;have gn:=Hd gu;clear gp gu gh;go_wp2_with fail;refine gB.o.mono ?_;rintro x w2 ⟨vv,o2,rfl,gb,gt,gg⟩;have gA:=Hd (KK o2 n hn .level w2 gg);have gl:=Hd gb;have gc:=Hd gt;have gm:=Hd gg;clear gb gt gg;go_wp2_with fail;refine gA.o.mono ?_;rintro x w3 ⟨vl,o3,rfl,g4,gs,gr⟩;obtain⟨av,cv,rfl,_⟩:=gl.o.slice;obtain⟨al,cl,rfl,_⟩:=g4.slice;have gx:=Hd g4;have g6:=Hd gs;have g3:=Hd gr;clear g4 gs gr;go_upto_region 7 with fail;obtain⟨wl,g1⟩:=Ex (w3.alloc (.cells #[.slice av n cv,.slice al n cl] 185));obtain⟨ws,g0⟩:=Ex (wl.alloc (.cells #[.pointer (some ⟨w3.heap.size,0,none⟩),.pointer (some ⟨pb,0,none⟩),.slice none 0 0,.slice none 0 0,.int .i64 0] 188));have gd:wl.heap.size=w3.heap.size+1:=by rw[g1];simp
 have gv:NewS o w n room (w3.heap.size+1) ⟨w3.heap.size,pb,.slice av n cv,.slice al n cl,.slice none 0 0,.slice none 0 0,[]⟩ 0 (AB (AB o3 w3.heap.size .levels) (w3.heap.size+1) .store) ws:=by
  have c1:=(Chg.refl Al o3 w3).allocR (r:=.levels) g3.o (.cells #[.slice av n cv,.slice al n cl] 185) (by simp[Al]);have l1:=g3.o.allocR (.cells #[.slice av n cv,.slice al n cl] 185) .levels;rw[<- g1] at c1 l1;have c2:=c1.allocR (r:=.store) l1 (.cells #[.pointer (some ⟨w3.heap.size,0,none⟩),.pointer (some ⟨pb,0,none⟩),.slice none 0 0,.slice none 0 0,.int .i64 0] 188) (by simp[Al]);have l2:=l1.allocR (.cells #[.pointer (some ⟨w3.heap.size,0,none⟩),.pointer (some ⟨pb,0,none⟩),.slice none 0 0,.slice none 0 0,.int .i64 0] 188) .store;rw[<- g0,gd] at c2 l2;have hb:Bw w3 ws:=by rw[g0,g1];exact(Af w3 _).alloc (by simp) _
  have gb:=((gl.o.chg g6.o gm.o (by simp)).below g3.o hb).keep (o':=AB (AB o3 w3.heap.size .levels) (w3.heap.size+1) .store) (fun _ _=>rfl) (fun g hg=>c2.ext g _ hg);have g4:=(gx.o.below g3.o hb).keep (o':=AB (AB o3 w3.heap.size .levels) (w3.heap.size+1) .store) (fun _ _=>rfl) (fun g hg=>c2.ext g _ hg);have gD:=(gn.o.mono (R':=Al) (fun r hr=>by rcases hr with rfl|rfl|rfl<;>simp[Al,Bg])).trans ((gc.o.mono (R':=Al) (fun r hr=>by subst hr;simp[Al])).trans ((g6.o.mono (R':=Al) (fun r hr=>by subst hr;simp[Al])).trans c2));have gC:=(gy.o.chg (gc.o) gz.o (by simp) (by simp) (by simp) (by simp)).chg g6.o gm.o (by simp) (by simp) (by simp) (by simp);have hp:=(gC.below hb g3.o).keep (o':=AB (AB o3 w3.heap.size .levels) (w3.heap.size+1) .store) (fun _ _ _ _=>rfl) (fun g r hg=>c2.ext g r hg);refine⟨Br _ _ _,CK l1 (by omega) (Br _ _ _),?_,?_,gb,g4,hp,RowR.nil _ _ _ _ _,rfl,fun v hv=>absurd hv (by omega),gD,l2,?_⟩
  . rw[g0,<- gd];exact WN wl _
  . rw[g0];exact(WT wl _ (show w3.heap.size<wl.heap.size by omega)).trans (by rw[g1];exact WN w3 _)
  ·show w.heap.size<=w3.heap.size+1
   exact Nat.le_succ_of_le (WU gn.o.size (WU gc.o.size g6.o.size))
 rw[<- g1,<- g0];have gw:=Hd gv;clear gv g0 g1 gd gl gx gn gc g6 gz gm g3 gy gB gA HP;go_wp2_with fail
 go_loopw [31] (fun i wr=>∃ (j:Nat) (s:B9) (o1:Own),j<=n/\i=.int .i64 j/\NewS o w n room (w3.heap.size+1) s j o1 wr) (fun i _=>n-(intOf i).toNat)
 case atStart=>exact⟨0,_,_,by omega,rfl,gw.o⟩
 case round =>
  obtain⟨j,s,o1,hj,rfl,hS⟩:=hrel;clear gw
  by_cases hlt:j<n
  ·obtain⟨c0,c1,c2,c3,c4,f0⟩:=cells5 hS.blk;obtain⟨av,cv,g9,_⟩:=hS.tabs.slice;rw[g9] at c2;have gG:(j:Int)<n:=by omega
   have HJ:(j:Int)+1<=64:=by omega
   have HS:=Hd hS;have gE:Hq (RowR o1 wr .tabs 189 1 (.slice av j cv) j (s.ts.map ptrV)):=by show RowR _ _ _ _ _ _ _ _;rw[<- g9];exact hS.tabs
   have gF:=Hd (P0 o1 j wr.drew hS.lt);have gH:j<=64:=by omega
   have gj:=Hd g9;clear g9 hS;go_upto_region 9 with fail;refine AR (fun W:Wd=>W.cell? ⟨w3.heap.size+1,2,none⟩=some (.slice av j cv)/\W.frozen? ⟨w3.heap.size+1,2,none⟩=false) true 10
    [(0,false),(1,false),(2,false),(3,false),(4,false),(5,true),(6,true),(7,true),(8,false),(9,false),(10,true)] (by kernel_rfl) (by kernel_rfl) ⟨c2,f0 2⟩ ?_
   simp only[planned,AQ]
   iterate 5
    refine A3 rfl ?_;apply Exists.intro;refine⟨fun w' hw=>?_,?_⟩
    . obtain⟨h1,h2⟩:=hw;go_simp;rfl
    simp only[Ac]
   refine BR (R:=fun v w'=>∃ t o2,v=.pointer (some ⟨t,0,none⟩)/\AJ o2 w' j t (fun _=>none)/\Chg (fun r=>r=.tab j\/r=.tmap j) o1 o2 wr w'/\Ab o2 w') rfl (by go_simp) (gF.o.mono (fun e w' he=>?_)) ?_
   . obtain⟨t,o2,rfl,a1,a2,a3,a4⟩:=he;obtain⟨_,_,q2,_,_,q0⟩:=cells5 ((a2.same (by exact HS.o.lt) HS.o.own (by simp)).trans HS.o.blk);exact⟨_,rfl,⟨by rw[<- gj.o];exact q2,q0 2⟩,t,o2,rfl,a1,⟨a2.os,a2.tape,a2.output,a2.size,a2.block,a2.ext,a2.new⟩,a3⟩
   rintro v wy-⟨t,o2,rfl,ht,g2,g5⟩;simp only[Ac];have ga:=(g2.same HS.o.lt HS.o.own (by simp)).trans HS.o.blk;have gf:w3.heap.size+1<wy.heap.size:=(WL.1 ga).1;have gN:=Hd g2;have gL:=Hd ht;have gM:=Hd g5;have gk:=gE.o.chg g2 HS.o.lt (by simp);obtain⟨wb,g8⟩:=Ex (wy.alloc (.cells #[.pointer (some ⟨t,0,none⟩)] 189));obtain⟨_,_,p2,_,_,p0⟩:=cells5 (show wb.heap[w3.heap.size+1]?=_ from by rw[g8];exact(WT _ _ gf).trans ga);refine FJ (v:=.slice (some ⟨wy.heap.size,0,none⟩) 1 1) (w':=wb) rfl (by rw[g8];go_simp) ⟨by rw[<- gj.o];exact p2,p0 2⟩ ?_;simp only[Ac];obtain⟨g,cap,wz,o3,g7,go,gi,gq⟩:=If 186 189 186 1 8 (.pointer none) underlying186 Qf rfl (by decide) #[.pointer (some ⟨t,0,none⟩)] rfl (fun u hu=>by simp at hu;subst hu;rfl) gk g5 (by omega) (by decide);rw[<- g8] at g7;obtain⟨_,_,r2,_,_,r0⟩:=cells5 ((gi.same g5 (g2.ext _ _ HS.o.own) (by simp)).trans ga);refine FJ (v:=.slice (some ⟨g,0,none⟩) (j+1) cap) (w':=wz) rfl (Km rfl rfl rfl g7) ⟨by rw[<- gj.o];exact r2,r0 2⟩ ?_;simp only[Ac];have HG:=Hd (HS.o.grown ht g2 g5 go gi gq);clear ga gf g2 ht g5 gk g8 p2 p0 g7 go gi gq
   iterate 2
    refine A3 rfl ?_;apply Exists.intro;refine⟨fun w' hw=>?_,?_⟩
    . obtain⟨h1,h2⟩:=hw;go_simp;rfl
    simp only[Ac]
   refine Dv rfl (fun K hK=>?_);unfold Oper.wp;go_simp;refine hK _ _ (Cj ?_);go_wp2_with fail;go_roundw
   case rel=>exact⟨j+1,_,_,by omega,by simp,HG.o⟩
   case measure=>simp[intOf];omega
  ·obtain rfl:j=n:=by omega
   have HS:=Hd hS;clear hS;go_wp2_with fail
   go_ret2
   exact⟨_,_,rfl,HS.o.done,HS.o.chg,HS.o.lt,HS.o.ge⟩
structure Ev where
 after:Int
 kind:Int
 level:Int
variable {ev:Ev}{ws:List Ev}
def evL (e:Ev):List Value:=[.int .i64 e.after,.int .i64 e.kind,.int .i64 e.level]
def evA (e:Ev):Value:=.agg #[.int .i64 e.after,.int .i64 e.kind,.int .i64 e.level]
structure AZ (o:Own)(w:Wd)(v:Value)(ws:List Ev):Prop where
 ex:(v=.slice none 0 0/\ws=[])\/∃ g off cap cur,v=.slice (some ⟨g,off,none⟩) ws.length cap/\o g=some .waits/\w.heap[g]?=some (.cells cur 105 (0,0))/\ws.length<=cap/\cap<=maxLen /\
  off+cap*3<=cur.size/\(cur.toList.drop off).take (ws.length*3)=ws.flatMap evL
theorem AZ.keep {o:Own}(h:AZ o w v ws)(hk:∀ g,o g=some .waits->w'.heap[g]?=w.heap[g]?)(ho:∀ g,o g=some .waits->o' g=some .waits):AZ o' w' v ws:=by
 refine⟨h.ex.imp id ?_⟩;rintro⟨g,off,cap,cur,h1,h2,h3,rest⟩;exact⟨g,off,cap,cur,h1,ho g h2,(hk g h2).trans h3,rest⟩
theorem AZ.chg {o:Own}(h:AZ o w v ws)(hc:Chg R o o' w w')(hlt:Ab o w)(hr:¬ R .waits):AZ o' w' v ws :=
 h.keep (fun g hg=>hc.same hlt hg hr) (fun g hg=>hc.ext g _ hg)
theorem AZ.nil (o:Own)(w:Wd):AZ o w (.slice none 0 0) []:=⟨.inl ⟨rfl,rfl⟩⟩
theorem AZ.slice {o:Own}{w:Wd}{v:Value}{ws:List Ev}(h:AZ o w v ws):∃ a cap,v=.slice a ws.length cap/\(a=none->cap=0):=by
 rcases h.ex with ⟨h1,h0⟩|⟨g,off,cap,cur,h1,_⟩
 . exact⟨none,0,by rw[h1,h0];rfl,fun _=>rfl⟩
 . exact⟨_,cap,h1,by simp⟩
theorem Eu (ws:List Ev):(ws.flatMap evL).length=ws.length*3:=BP evL 3 (fun _=>rfl) ws
abbrev Xk:=@List.getElem?_eq_some_iff
theorem AZ.first {o:Own}(h:AZ o w v (ev::ws)):∃ g off cap,v=.slice (some ⟨g,off,none⟩) (ws.length+1) cap/\o g=some .waits/\ws.length+1<=cap/\cap<=maxLen /\
 w.cell? ⟨g,off,none⟩=some (.int .i64 ev.after)/\w.cell? ⟨g,off+1,none⟩=some (.int .i64 ev.kind)/\w.cell? ⟨g,off+2,none⟩=some (.int .i64 ev.level)/\AZ o w (.slice (if cap=1 then some ⟨g,off,none⟩ else some ⟨g,off+3,none⟩) ws.length (cap-1)) ws:=by
 rcases h.ex with ⟨h1,h0⟩|⟨g,off,cap,cur,h1,h2,h3,h4,h5,h6,h7⟩
 . cases h0
 ·simp only[Xm] at h1 h4 h7;have hc:∀ j u,(evL ev++ws.flatMap evL)[j]?=some u->w.cell? ⟨g,off+j,none⟩=some u:=by
   intro j u hj;have hl:=(Xk.1 hj).1;have g0:j<(ws.length+1)*3:=by
    have e1:(evL ev++ws.flatMap evL).length=3+ws.length*3:=by rw[WY,Eu];rfl
    omega
   rw[WQ w g (off+j) cur _ (0,0) h3];have e2:(evL ev++ws.flatMap evL)[j]?=((cur.toList.drop off).take ((ws.length+1)*3))[j]?:=by rw[h7];rfl
   rw[e2,Yz,WR g0,Y0] at hj;simpa using hj
  refine⟨g,off,cap,h1,h2,h4,h5,hc 0 _ rfl,hc 1 _ rfl,hc 2 _ rfl,⟨.inr ?_⟩⟩
  by_cases e1:cap=1
  . have e2:ws=[]:=Yg (by omega);subst e2;exact⟨g,off,cap-1,cur,by rw[WR e1],h2,h3,by simp,by omega,by omega,by simp⟩
  ·refine⟨g,off+3,cap-1,cur,by rw[WO e1],h2,h3,by omega,by omega,by omega,?_⟩;have e3:(cur.toList.drop (off+3)).take (ws.length*3)=((cur.toList.drop off).take ((ws.length+1)*3)).drop 3:=by
    rw[List.drop_take,List.drop_drop];congr 1;omega
   rw[e3,h7];rfl
structure ManD where
 d:Ae
 hs:List (Int×Nat)
 next:Int
 waits:List Ev
 calls:Int
variable {m m':ManD}
structure ManW where
 sb:Nat
 me:Nat
 hb:Nat
 vw:Value
def encH (hs:List (Int×Nat)):List (Int×Value):=hs.map fun p=>(p.1,.int .i64 (p.2:Nat))
structure A2 (F:Phi)(o:Own)(w:Wd)(mb:Nat)(m:ManD)(s:ManW):Prop where
 own:o mb=some .man
 blk:w.heap[mb]?=some (.cells #[.pointer (some ⟨s.sb,0,none⟩),.pointer (some ⟨s.me,0,none⟩),.map (some s.hb),.int .i64 m.next,s.vw,.int .i64 m.calls] 118 (0,0))
 store:Ay o w s.sb m.d
 memo:AX o w s.me F
 ownh:o s.hb=some .handles
 map:Ar w s.hb (Value.int .i64) (encH m.hs)
 waits:AZ o w s.vw m.waits
def A9 (F:Phi)(o:Own)(w:Wd)(mb:Nat)(m:ManD):Prop:=∃ s,A2 F o w mb m s
theorem cells6 {a b c d e f:Value}(h:w.heap[g]?=some (.cells #[a,b,c,d,e,f] T (0,0))):w.cell? ⟨g,0,none⟩=some a/\w.cell? ⟨g,1,none⟩=some b/\w.cell? ⟨g,2,none⟩=some c/\w.cell? ⟨g,3,none⟩=some d/\w.cell? ⟨g,4,none⟩=some e/\w.cell? ⟨g,5,none⟩=some f /\
 (∀ k,w.frozen? ⟨g,k,none⟩=false) :=
 ⟨by rw[WQ w g 0 _ _ _ h];rfl,by rw[WQ w g 1 _ _ _ h];rfl,by rw[WQ w g 2 _ _ _ h];rfl,by rw[WQ w g 3 _ _ _ h];rfl,by rw[WQ w g 4 _ _ _ h];rfl,by rw[WQ w g 5 _ _ _ h];rfl,fun k=>by simp[World.frozen?,h]⟩
section
variable {F:Phi}{o:Own}{s:ManW}
theorem Ar.keepB {enc:Int->Value}{l:List (Int×Value)}(h:Ar w b enc l)(hk:w'.heap[b]?=w.heap[b]?):Ar w' b enc l:=by
 obtain⟨es,c,hb,rest⟩:=h.ex;exact⟨⟨es,c,hk.trans hb,rest⟩,h.nodup⟩
theorem Ay.keepR (h:Ay o w sb d)(hk:∀ g r,o g=some r->Al r->w'.heap[g]?=w.heap[g]?)(ho:∀ g r,o g=some r->o' g=some r):Ay o' w' sb d:=by
 obtain⟨s,h⟩:=h;have row:∀ {r e k v n xs},Al r->RowR o w r e k v n xs->RowR o' w' r e k v n xs:=fun hr h=>h.keep (fun g hg=>hk g _ hg hr) (fun g hg=>ho g _ hg)
 refine⟨s,ho _ _ h.own,ho _ _ h.ownl,(hk _ _ h.own (by simp[Al])).trans h.blk,(hk _ _ h.ownl (by simp[Al])).trans h.lev,row (by simp[Al]) h.vars,row (by simp[Al]) h.level,
  h.pool.keep (fun g r hg hr=>hk g r hg (by rcases hr with rfl|rfl|rfl|rfl<;>simp[Al,Bg])) ho,row (by simp[Al]) h.tabs,
  fun v hv=>(h.tab v hv).keep (fun g r hg hr=>hk g r hg (by rcases hr with rfl|rfl<;>simp[Al])) ho,row (by simp[Al]) h.counts,h.len,h.tlen⟩
theorem AX.mono {G:Phi}{me:Nat}(h:AX o w me F)(hF:∀ op a b c r,F op a b c r->G op a b c r):AX o w me G:=by
 obtain⟨ve,a,f,h1,h2⟩:=h.ex;refine⟨h.own,ve,a,f,h1,h2.imp id ?_⟩;rintro⟨ge,cap,l,e1,e2,e3,e4⟩;exact⟨ge,cap,l,e1,e2,e3,fun i hi=>hF _ _ _ _ _ (e4 i hi)⟩
theorem A2.keep (h:A2 F o w mb m s)(hk:∀ g r,o g=some r->w'.heap[g]?=w.heap[g]?)(ho:∀ g r,o g=some r->o' g=some r):A2 F o' w' mb m s :=
 ⟨ho _ _ h.own,(hk _ _ h.own).trans h.blk,h.store.keepR (fun g r hg _=>hk g r hg) ho,h.memo.keep (fun g r hg _=>hk g r hg) ho,ho _ _ h.ownh,h.map.keepB (hk _ _ h.ownh),h.waits.keep (fun g hg=>hk g _ hg) (fun g hg=>ho g _ hg)⟩
theorem A2.below (h:A2 F o w mb m s)(hlt:Ab o w)(hb:Bw w w'):A2 F o w' mb m s:=h.keep (fun g r hg=>hb.block g (hlt g r hg)) (fun _ _ h=>h)
theorem A2.setStore (h:A2 F o w mb m s)(hlt:Ab o w)(hs:Ay o' w' s.sb d')(hc:Chg Al o o' w w'):A2 F o' w' mb { m with d:=d' } s :=
 ⟨hc.ext _ _ h.own,(hc.same hlt h.own (by simp[Al,Bg])).trans h.blk,hs,h.memo.chg hc hlt (by simp[Al,Bg]) (by simp[Al,Bg]),hc.ext _ _ h.ownh,h.map.keepB (hc.same hlt h.ownh (by simp[Al,Bg])),h.waits.chg hc hlt (by simp[Al,Bg])⟩
theorem A2.setMemo {G:Phi}(h:A2 F o w mb m s)(hlt:Ab o w)(hm:AX o' w' s.me G)(hc:Chg (fun r=>r=.memo\/r=.entries) o o' w w'):A2 G o' w' mb m s :=
 ⟨hc.ext _ _ h.own,(hc.same hlt h.own (by simp)).trans h.blk,h.store.keepR (fun g r hg hr=>hc.same hlt hg (by rintro(rfl|rfl)<;>simp[Al,Bg] at hr)) hc.ext,hm,hc.ext _ _ h.ownh,h.map.keepB (hc.same hlt h.ownh (by simp)),h.waits.chg hc hlt (by simp)⟩
theorem A2.mono {G:Phi}(h:A2 F o w mb m s)(hF:∀ op a b c r,F op a b c r->G op a b c r):A2 G o w mb m s:=⟨h.own,h.blk,h.store,h.memo.mono hF,h.ownh,h.map,h.waits⟩
theorem A2.field (h:A2 F o w mb m s){s':ManW}(hd:m'.d=m.d)(hh:m'.hs=m.hs)(h1:s'.sb=s.sb)(h2:s'.me=s.me)(h3:s'.hb=s.hb)(hw:AZ o w s'.vw m'.waits)
 (hb:(#[.pointer (some ⟨s.sb,0,none⟩),.pointer (some ⟨s.me,0,none⟩),.map (some s.hb),.int .i64 m.next,s.vw,.int .i64 m.calls]:Array Value).setIfInBounds k u=#[.pointer (some ⟨s.sb,0,none⟩),.pointer (some ⟨s.me,0,none⟩),.map (some s.hb),.int .i64 m'.next,s'.vw,.int .i64 m'.calls]) :
 A2 F o (w.setCell ⟨mb,k,none⟩ u) mb m' s':=by
 have ne:∀ {g r},o g=some r->r ≠ .man->g≠mb:=fun hg hr e=>by subst e;have:=h.own;rw[hg] at this;cases this;exact hr rfl
 refine⟨h.own,?_,?_,?_,by rw[h3];exact h.ownh,?_,hw.keep (fun g hg=>Aw (ne hg (by simp)) _) (fun _ h=>h)⟩
 . rw[h1,h2,h3,<- hb];exact Az h.blk _
 . rw[h1,hd];exact h.store.keepR (fun g r hg hr=>Aw (ne hg (by rintro rfl;simp[Al,Bg] at hr)) _) (fun _ _ h=>h)
 . rw[h2];exact h.memo.keep (fun g r hg hr=>Aw (ne hg (by rintro rfl;rcases hr with e|e<;>cases e)) _) (fun _ _ h=>h)
 . rw[h3,hh];exact h.map.keepB (Aw (ne h.ownh (by simp)) _)
end
abbrev Law:=Ae->(Nat->BF)->Phi
def minL (d:Ae)(a b c:Nat):Nat:=min (lvE d.vars.length (levN d) (Aa d) a) (min (lvE d.vars.length (levN d) (Aa d) b) (lvE d.vars.length (levN d) (Aa d) c))
structure IteP (d:Ae)(V:Nat->BF)(a b c r:Nat):Prop where
 okA:okE (Aa d) a
 okB:okE (Aa d) b
 okC:okE (Aa d) c
 okR:okE (Aa d) r
 val:∀ ρ,ef V r ρ=if ef V a ρ then ef V b ρ else ef V c ρ
 lev:minL d a b c<=lvE d.vars.length (levN d) (Aa d) r
structure A5 (K:Law):Prop where
 ite:∀ d V a b c r,K d V 1 a b c r↔IteP d V a b c r
 ext:∀ d V d' V' op a b c r,Ai d V->Ai d' V'->Ext d V d' V'->K d V op a b c r->K d' V' op a b c r
 same:∀ d d' V op a b c r,d'.vars=d.vars->d'.level=d.level->Aa d'=Aa d->K d V op a b c r->K d' V op a b c r
def AK (hs:List (Int×Nat))(i:Nat):Nat:=(hs.filter fun p=>decide (1<p.1)&&p.2/2 == i).length
structure Ca (m:ManD):Prop where
 nodup:(m.hs.map Prod.fst).Nodup
 zero:(0,1)∈m.hs
 one:(1,0)∈m.hs
 lt:∀ p∈m.hs,0<=p.1/\p.1<m.next
 next:2<=m.next
 ok:∀ p∈m.hs,okE (Aa m.d) p.2
 len:(m.hs.length:Int)<=m.next
 refs:∀ i b,Aa m.d i=some b->Ak m.d i=AK m.hs i
structure Ew (m:ManD)(V:Nat->BF):Prop where
 store:Ai m.d V
 handles:Ca m
structure Step (K:Law)(o:Own)(w:Wd)(mb:Nat)(m:ManD)(V:Nat->BF)(o':Own)(w':Wd)(m':ManD)(V':Nat->BF):Prop where
 is:A9 (K m'.d V') o' w' mb m'
 lt:Ab o' w'
 chg:Chg (fun _=>True) o o' w w'
 ok:Ai m'.d V'
 ext:Ext m.d V m'.d V'
 hs:m'.hs=m.hs
 next:m'.next=m.next
theorem Step.trans {K:Law}{o o' o'':Own}{w w' w'':Wd}{mb:Nat}{m m' m'':ManD}{V V' V'':Nat->BF}(h:Step K o w mb m V o' w' m' V')(h':Step K o' w' mb m' V' o'' w'' m'' V''):Step K o w mb m V o'' w'' m'' V'' :=
 ⟨h'.is,h'.lt,h.chg.trans h'.chg,h'.ok,h.ext.trans h'.ext,h'.hs.trans h.hs,h'.next.trans h.next⟩
structure AH (o:Own)(w:Wd)(xb mb:Nat):Prop where
 cell:w.cell? ⟨xb,0,none⟩=some (.pointer (some ⟨mb,0,none⟩))
 own:o xb=none
theorem AH.chg {o:Own}(h:AH o w xb mb)(hc:Chg R o o' w w'):AH o' w' xb mb:=⟨hc.cell h.cell h.own,hc.alien' (YE w _ h.cell) h.own⟩
def sw1 (f g:Nat):Nat:=if g=f then 0 else if g=enot f then 1 else g
def sw2 (f h:Nat):Nat:=if h=f then 1 else if h=enot f then 0 else h
theorem Qh (h:g<eMax):sw1 f g<eMax:=by unfold sw1;unfold eMax at *;split<;>(try split)<;>omega
theorem Qi (h:g<eMax):sw2 f g<eMax:=by unfold sw2;unfold eMax at *;split<;>(try split)<;>omega
theorem eqE2 (w:Wd)(a b c d:Nat):(Op.equalIn 10000 257 (.agg #[.int .i64 a,.int .i64 b]) (.agg #[.int .i64 c,.int .i64 d])).run prog w=.ok (decide (a=c/\b=d)) w:=by
 have h:=eqE w (a,b) (c,d);unfold encE Op.equal at h;simp only[Yc] at h;exact h
structure IteR where
 a:Nat
 b:Nat
 c:Nat
 n:Bool
 r:Nat
 dn:Bool
def iteV (x:IteR):Value:=.tuple #[.int .i64 x.a,.int .i64 x.b,.int .i64 x.c,.bool x.n,.int .i64 x.r,.bool x.dn]
def iteM (f g h:Nat):IteR:=if eneg f then ⟨enot f,eflip h (eneg h),eflip g (eneg h),eneg h,0,false⟩ else ⟨f,eflip g (eneg g),eflip h (eneg g),eneg g,0,false⟩
def iteK (f g h:Nat):IteR :=
 if f=0\/g=h then ⟨0,0,0,false,g,true⟩ else if f=1 then ⟨0,0,0,false,h,true⟩ else if g=0/\h=1 then ⟨0,0,0,false,f,true⟩ else if g=1/\h=0 then ⟨0,0,0,false,enot f,true⟩ else iteM f g h
def iteR (f g h:Nat):IteR:=iteK f (sw1 f g) (sw2 f h)
theorem DR {fn:Func}{t u v x y z:Tmp}(h:fn.results=#[.tmp t,.tmp u,.tmp v,.tmp x,.tmp y,.tmp z])(tmps:Array Value)(P:Program)(w:Wd) :
 (results fn tmps).run P w=.ok (.tuple #[tmps.getD t undef,tmps.getD u undef,tmps.getD v undef,tmps.getD x undef,tmps.getD y undef,tmps.getD z undef]) w:=by
 simp[results,h]
theorem Qj (f g h:Nat)(w:Wd)(hf:f<eMax)(hg:g<eMax)(hh:h<eMax) :
 Calls prog 157 #[.int .i64 f,.int .i64 g,.int .i64 h] w (Sm (iteV (iteR f g h)) w):=by
 have HN:=Hd (fun W:Wd=>FB f W hf);have g3:=Hd (Qh (f:=f) hg);have HH:=Hd hh;have g2:=Hd (Qi (f:=f) hh);have g9:=Hd hf;clear hf hg hh
 go_enter func157,ntmps157
 go_upto_block 0 with fail
 go_cut [1] from 13 (fun s1 wx=>s1=.int .i64 (sw1 f g:Nat)/\wx=w)
 case first =>
  by_cases h1:g=f
  ·have HX:Hq ((sw1 f g:Nat)=0):=by show _=_;simp[sw1,h1]
   subst h1;go_wp2_with fail;go_meet;exact⟨by rw[HX.o];rfl,rfl⟩
  ·have H1:(g == f)=false:=by simp[h1]
   by_cases h2:g=enot f
   ·have HX:Hq ((sw1 f g:Nat)=1):=by show _=_;unfold sw1;rw[WO h1,WR h2]
    subst h2;clear h1;go_wp2_with (go_at_call 67;refine(HN.o _).mono ?_;rintro x w' ⟨rfl,rfl⟩);go_meet;exact⟨by rw[HX.o];rfl,rfl⟩
   ·have HX:Hq ((sw1 f g:Nat)=g):=by show _=_;unfold sw1;rw[WO h1,WO h2]
    have H2:(g == enot f)=false:=by simp[h2]
    clear h1 h2;go_wp2_with (go_at_call 67;refine(HN.o _).mono ?_;rintro x w' ⟨rfl,rfl⟩);go_meet;exact⟨by rw[HX.o],rfl⟩
 case rest =>
  obtain⟨rfl,rfl⟩:=hcut;have g0:Hq (iteR f g h=iteK f (sw1 f g) (sw2 f h)):=by show _=_;rfl
  obtain⟨g',g4⟩:=Ex (sw1 f g);rw[<- g4] at g0;rw[<- g4] at g3 ⊢;clear g4
  go_upto_block 1 with fail
  go_cut [2] from 13 (fun s2 wx=>s2=.int .i64 (sw2 f h:Nat)/\wx=wc)
  case first =>
   by_cases h1:h=f
   ·have HX:Hq ((sw2 f h:Nat)=1):=by show _=_;simp[sw2,h1]
    subst h1;go_wp2_with fail;go_meet;exact⟨by rw[HX.o];rfl,rfl⟩
   ·have H1:(h == f)=false:=by simp[h1]
    by_cases h2:h=enot f
    ·have HX:Hq ((sw2 f h:Nat)=0):=by show _=_;unfold sw2;rw[WO h1,WR h2]
     subst h2;clear h1;go_wp2_with (go_at_call 67;refine(HN.o _).mono ?_;rintro x w' ⟨rfl,rfl⟩);go_meet;exact⟨by rw[HX.o];rfl,rfl⟩
    ·have HX:Hq ((sw2 f h:Nat)=h):=by show _=_;unfold sw2;rw[WO h1,WO h2]
     have H2:(h == enot f)=false:=by simp[h2]
     clear h1 h2;go_wp2_with (go_at_call 67;refine(HN.o _).mono ?_;rintro x w' ⟨rfl,rfl⟩);go_meet;exact⟨by rw[HX.o],rfl⟩
  case rest =>
   obtain⟨rfl,rfl⟩:=hcut;obtain⟨h',g5⟩:=Ex (sw2 f h);rw[<- g5] at g0 g2 ⊢;clear g5
   rename Wd=>w
   have hq:=fun(a b c d:Nat)=>eqE2 w a b c d
   by_cases f0:f=0
   ·have HR:Hq (iteR f g h=⟨0,0,0,false,g',true⟩):=by show _=_;rw[g0.o,iteK,WR (.inl f0)]
    subst f0;go_wp2_with fail;refine Xc (DR rfl _ _ _) rfl ?_;exact⟨by rw[HR.o];rfl,rfl⟩
   ·have H0:((f:Int) == 0)=false:=by simp[f0]
    by_cases e1:g'=h'
    ·have HR:Hq (iteR f g h=⟨0,0,0,false,g',true⟩):=by show _=_;rw[g0.o,iteK,WR (.inr e1)]
     subst e1;go_wp2_with fail;refine Xc (DR rfl _ _ _) rfl ?_;exact⟨by rw[HR.o];rfl,rfl⟩
    ·have H1:(g' == h')=false:=by simp[e1]
     by_cases f1:f=1
     ·have HR:Hq (iteR f g h=⟨0,0,0,false,h',true⟩):=by show _=_;rw[g0.o,iteK,WO (by simp[f0,e1]),WR f1]
      have HR:=HR;subst f1;clear f0 e1;go_wp2_with fail;refine Xc (DR rfl _ _ _) rfl ?_;exact⟨by rw[HR.o];rfl,rfl⟩
     ·have H2:((f:Int) == 1)=false:=by simp;omega
      by_cases q1:g'=0/\h'=1
      ·have HR:Hq (iteR f g h=⟨0,0,0,false,f,true⟩):=by show _=_;rw[g0.o,iteK,WO (by simp[f0,e1]),WO f1,WR q1]
       have g8:(Op.equalIn 10000 257 (.agg #[.int .i64 g',.int .i64 h']) (.agg #[.int .i64 0,.int .i64 1])).run prog w=.ok true w:=(hq g' h' 0 1).trans (by simp[q1]);clear f0 e1 f1 q1 hq;go_wp2_with fail;refine Xc (DR rfl _ _ _) rfl ?_;exact⟨by rw[HR.o];rfl,rfl⟩
      ·have g8:(Op.equalIn 10000 257 (.agg #[.int .i64 g',.int .i64 h']) (.agg #[.int .i64 0,.int .i64 1])).run prog w=.ok false w:=(hq g' h' 0 1).trans (by simp[q1])
       by_cases q2:g'=1/\h'=0
       ·have HR:Hq (iteR f g h=⟨0,0,0,false,enot f,true⟩):=by show _=_;rw[g0.o,iteK,WO (by simp[f0,e1]),WO f1,WO q1,WR q2]
        have g7:(Op.equalIn 10000 257 (.agg #[.int .i64 g',.int .i64 h']) (.agg #[.int .i64 1,.int .i64 0])).run prog w=.ok true w:=(hq g' h' 1 0).trans (by simp[q2]);clear f0 e1 f1 q1 hq q2;go_wp2_with (go_at_call 67;refine(HN.o _).mono ?_;rintro x w' ⟨rfl,rfl⟩);refine Xc (DR rfl _ _ _) rfl ?_;exact⟨by rw[HR.o];rfl,rfl⟩
       ·have g7:(Op.equalIn 10000 257 (.agg #[.int .i64 g',.int .i64 h']) (.agg #[.int .i64 1,.int .i64 0])).run prog w=.ok false w:=(hq g' h' 1 0).trans (by simp[q2]);have g6:Hq (iteR f g h=iteM f g' h'):=by show _=_;rw[g0.o,iteK,WO (by simp[f0,e1]),WO f1,WO q1,WO q2]
        clear f0 e1 f1 q1 hq q2;have g1:=Hd (fun W:Wd=>Dt f W g9.o);cases hb:eneg f with
        | true =>
          have HR:Hq (iteR f g h=⟨enot f,eflip h' (eneg h'),eflip g' (eneg h'),eneg h',0,false⟩):=by show _=_;rw[g6.o,iteM,WR hb]
          rw[hb] at g1;clear hb;go_wp2_with fail;refine(g1.o _).mono ?_;rintro x w' ⟨rfl,rfl⟩;go_wp2_with fail;refine(HN.o _).mono ?_;rintro x w' ⟨rfl,rfl⟩;go_wp2_with fail;refine(Dt h' _ g2.o).mono ?_;rintro x w' ⟨rfl,rfl⟩;go_wp2_with fail;refine(Ch h' _ _ g2.o).mono ?_;rintro x w' ⟨rfl,rfl⟩;go_wp2_with fail;refine(Ch g' _ _ g3.o).mono ?_;rintro x w' ⟨rfl,rfl⟩;go_wp2_with fail;refine Xc (DR rfl _ _ _) rfl ?_;exact⟨by rw[HR.o];rfl,rfl⟩
        | false =>
          have HR:Hq (iteR f g h=⟨f,eflip g' (eneg g'),eflip h' (eneg g'),eneg g',0,false⟩):=by show _=_;rw[g6.o,iteM,WO (by simp[hb])]
          rw[hb] at g1;clear hb;go_wp2_with fail;refine(g1.o _).mono ?_;rintro x w' ⟨rfl,rfl⟩;go_wp2_with fail;refine(Dt g' _ g3.o).mono ?_;rintro x w' ⟨rfl,rfl⟩;go_wp2_with fail;refine(Ch g' _ _ g3.o).mono ?_;rintro x w' ⟨rfl,rfl⟩;go_wp2_with fail;refine(Ch h' _ _ g2.o).mono ?_;rintro x w' ⟨rfl,rfl⟩;go_wp2_with fail;refine Xc (DR rfl _ _ _) rfl ?_;exact⟨by rw[HR.o];rfl,rfl⟩
def BI (e f g h:Nat):Prop:=e/2=0\/e/2=f/2\/e/2=g/2\/e/2=h/2
def iteB (a b c:Bool):Bool:=if a then b else c
section
variable (hV:∀ ρ,V 0 ρ=true)
theorem DS (hV:∀ ρ,V 0 ρ=true)(ρ:Nat->Bool):ef V 0 ρ=true:=by simp[ef,hV]
theorem DT (hV:∀ ρ,V 0 ρ=true)(ρ:Nat->Bool):ef V 1 ρ=false:=by simp[ef,hV]
theorem KL (hV:∀ ρ,V 0 ρ=true)(f g:Nat)(h:Bool)(ρ:Nat->Bool):iteB (ef V f ρ) (ef V (sw1 f g) ρ) h=iteB (ef V f ρ) (ef V g ρ) h:=by
 unfold sw1
 by_cases e1:g=f
 . subst e1;rw[WR rfl,DS hV];unfold iteB;cases ef V g ρ<;>rfl
 ·by_cases e2:g=enot f
  . subst e2;rw[WO e1,WR rfl,Ds,DT hV];unfold iteB;cases ef V f ρ<;>rfl
  . rw[WO e1,WO e2]
end
theorem KM (hV:∀ ρ,V 0 ρ=true)(f h:Nat)(g:Bool)(ρ:Nat->Bool):iteB (ef V f ρ) g (ef V (sw2 f h) ρ)=iteB (ef V f ρ) g (ef V h ρ):=by
 unfold sw2
 by_cases e1:h=f
 . subst e1;rw[WR rfl,DT hV];unfold iteB;cases ef V h ρ<;>rfl
 ·by_cases e2:h=enot f
  . subst e2;rw[WO e1,WR rfl,Ds,DS hV];unfold iteB;cases ef V f ρ<;>rfl
  . rw[WO e1,WO e2]
theorem KN (f g:Nat):sw1 f g/2=0\/sw1 f g/2=g/2:=by unfold sw1;split<;>(try split)<;>simp
theorem KO (f g:Nat):sw2 f g/2=0\/sw2 f g/2=g/2:=by unfold sw2;split<;>(try split)<;>simp
theorem KP (hd:(iteR f g h).dn=true):BI (iteR f g h).r f g h/\∀ {V:Nat->BF},(∀ ρ,V 0 ρ=true)->∀ ρ,ef V (iteR f g h).r ρ=iteB (ef V f ρ) (ef V g ρ) (ef V h ρ):=by
 have q1:=KN f g;have q2:=KO f h;have key:∀ {V:Nat->BF},(∀ ρ,V 0 ρ=true)->∀ ρ,iteB (ef V f ρ) (ef V g ρ) (ef V h ρ)=iteB (ef V f ρ) (ef V (sw1 f g) ρ) (ef V (sw2 f h) ρ):=fun hV ρ=>by rw[KL hV,KM hV]
 unfold iteR at hd ⊢
 generalize sw1 f g=g' at *
 generalize sw2 f h=h' at *
 unfold iteK at hd ⊢
 by_cases e1:f=0\/g'=h'
 ·simp only[WR e1];refine⟨by unfold BI;omega,fun hV ρ=>?_⟩;rw[key hV];rcases e1 with e|e
  . subst e;rw[DS hV];rfl
  . subst e;unfold iteB;split<;>rfl
 ·simp only[WO e1] at hd ⊢
  by_cases e2:f=1
  . simp only[WR e2];refine⟨by unfold BI;omega,fun hV ρ=>?_⟩;rw[key hV];subst e2;rw[DT hV];rfl
  ·simp only[WO e2] at hd ⊢
   by_cases e3:g'=0/\h'=1
   . simp only[WR e3];refine⟨by unfold BI;omega,fun hV ρ=>?_⟩;rw[key hV,e3.1,e3.2,DT hV,DS hV];unfold iteB;cases ef _ f ρ<;>rfl
   ·simp only[WO e3] at hd ⊢
    by_cases e4:g'=1/\h'=0
    . simp only[WR e4];have:=Dr f;refine⟨by unfold BI;omega,fun hV ρ=>?_⟩;rw[key hV,e4.1,e4.2,DT hV,DS hV,Ds];unfold iteB;cases ef _ f ρ<;>rfl
    . simp only[WO e4] at hd;unfold iteM at hd;split at hd<;>cases hd
theorem Qk (hd:(iteR f g h).dn=false):BI (iteR f g h).a f g h/\BI (iteR f g h).b f g h/\BI (iteR f g h).c f g h/\(iteR f g h).a/2≠0 /\
 ∀ {V:Nat->BF},(∀ ρ,V 0 ρ=true)->∀ ρ,iteB (ef V f ρ) (ef V g ρ) (ef V h ρ)=((iteR f g h).n != iteB (ef V (iteR f g h).a ρ) (ef V (iteR f g h).b ρ) (ef V (iteR f g h).c ρ)):=by
 have q1:=KN f g;have q2:=KO f h;have key:∀ {V:Nat->BF},(∀ ρ,V 0 ρ=true)->∀ ρ,iteB (ef V f ρ) (ef V g ρ) (ef V h ρ)=iteB (ef V f ρ) (ef V (sw1 f g) ρ) (ef V (sw2 f h) ρ):=fun hV ρ=>by rw[KL hV,KM hV]
 unfold iteR at hd ⊢
 generalize sw1 f g=g' at *
 generalize sw2 f h=h' at *
 unfold iteK at hd ⊢
 by_cases e1:f=0\/g'=h'
 . simp[WR e1] at hd
 ·by_cases e2:f=1
  . simp[WO e1,WR e2] at hd
  ·by_cases e3:g'=0/\h'=1
   . simp[WO e1,WO e2,WR e3] at hd
   ·by_cases e4:g'=1/\h'=0
    . simp[WO e1,WO e2,WO e3,WR e4] at hd
    ·simp only[WO e1,WO e2,WO e3,WO e4];unfold iteM
     by_cases e5:eneg f=true
     . simp only[WR e5];have a1:=Dr f;have a2:=Db h' (eneg h');have a3:=Db g' (eneg h');refine⟨by unfold BI;omega,by unfold BI;omega,by unfold BI;omega,by omega,fun hV ρ=>?_⟩;rw[key hV,Ds,Cu,Cu];unfold iteB;cases ef _ f ρ<;>cases eneg h'<;>simp
     . simp only[WO e5];have a2:=Db h' (eneg g');have a3:=Db g' (eneg g');refine⟨by unfold BI;omega,by unfold BI;omega,by unfold BI;omega,by omega,fun hV ρ=>?_⟩;rw[key hV,Cu,Cu];unfold iteB;cases ef _ f ρ<;>cases eneg g'<;>simp
end Go.Proofs.YtgmbklaolcmljaaGreat
