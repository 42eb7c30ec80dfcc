/- Several texts in one file: contracts of the program's functions and what follows from them. -/
import Derived.Test.YtlgogjbkadckkaaGreatM1
import Derived.Laws.IdiomCopy
import Derived.Deep.Cut
import Derived.Deep.CutRange
import Derived.Deep.DeepCutAuto
import Derived.Deep.CutBlock
set_option linter.unusedSimpArgs false
set_option linter.unusedVariables false
set_option linter.unusedSectionVars false
set_option linter.unnecessarySimpa false
set_option maxRecDepth 100000
set_option maxHeartbeats 8000000
namespace Go.Proofs.YtlgogjbkadckkaaGreat
open Go.RowKit
section
variable {P:Program} {ops:Array Oper} {S:World->Prop} {Q:Exit->Act->World->Prop} {last:Bool}
theorem Zch {o:Oper} {r:List (Option Oper×Bool)} {a:Act} {w:World} {f:FuncId} {args:Array Value} {R:Value->World->Prop} (hg:o.guard=none)
 (he:(execOp a.eval o).run P w=.ok (.enter f args) w) (hc:Calls P f args w fun e w'=>∃ v,e=.returned v/\S w'/\R v w')
 (h:∀ v w',S w'->R v w'->Zck P ops Q S last r (a.put o.dst v) w'):Zck P ops Q S last ((some o,true)::r) a w:=by
 have hw:Region.wanted o (yielded ops a.tmps)=true:=by simp[Region.wanted,hg]
 unfold Zck;simp only[hw,if_true,Oper.wp,he,Oper.upon];exact hc.mono fun e w' ⟨v,h1,h2,h3⟩=>by subst h1;exact⟨.inr h2,h v w' h2 h3⟩
end
theorem Zo8 (o:Own) (w:World) (hlt:Zai o w):RowR (Zcs o w.heap.size .entries) (w.alloc (.cells (madeCells #[.int .i64 0,.int .i64 0,.int .i64 0,.int .i64 0,.int .i64 0,.bool false] (4096*6)) 212)) .entries 212 6 (.slice (some ⟨w.heap.size,0,none⟩) 4096 4096) 4096 ((List.replicate 4096 ent0).flatMap entV):=by
 refine⟨by rw[Za6 entV 6 Zbm,List.length_replicate],.inr ⟨w.heap.size,4096,_,rfl,Za5 _ _ _,heap_alloc_new w _,Nat.le_refl _,by decide,by rw[size_madeCells];exact Nat.le_refl _,?_⟩⟩;rw[Zi5,List.take_of_length_le];rw[Za6 entV 6 Zbm,List.length_replicate];exact Nat.le_refl _
theorem Zl4 (F:Phi) (n:Nat):Zvb F (List.replicate n ent0):=by
 intro i hi;have:Zeg (List.replicate n ent0) i=ent0:=by
  simp only[Zeg,List.getD,List.getElem?_replicate];split<;>rfl
 rw[this] at hi;cases hi
theorem Zkw (w:World):(Instr.makeSlice 146 (.int .i64 4096) (.int .i64 4096)).run Tryz.prog w=.ok (.slice (some ⟨w.heap.size,0,none⟩) 4096 4096) (w.alloc (.cells (madeCells #[.int .i64 0,.int .i64 0,.int .i64 0,.int .i64 0,.int .i64 0,.bool false] (4096*6)) 212)):=by
 have s:=Zpk;cases hi:Tryz.prog.info? 212 with
 | none=>rw[hi] at s;cases s
 | some i =>
   rw[hi] at s;simp only[Option.map_some,Option.some.injEq,Prod.mk.injEq] at s;obtain⟨hz,hs,hb⟩:=s;have:=run_make (P:=Tryz.prog) w 146 212 i _ Tryz.underlying146 hi hz .i64 .i64 4096 4096 (by decide) (by decide) (by rw[hb];decide) (by decide);rw[hs] at this;exact this
structure Zda (o:Own) (w:World) (mb ge cap:Nat) (l:List EntD) (asked found:Int) (F:Phi):Prop where
 own:o mb=some .memo
 blk:w.heap[mb]?=some (.cells #[.int .i64 4096,.slice (some ⟨ge,0,none⟩) 4096 cap,.int .i64 asked,.int .i64 found] 148 (0,0))
 len:l.length=4096
 row:RowR o w .entries 212 6 (.slice (some ⟨ge,0,none⟩) 4096 cap) 4096 (l.flatMap entV)
 ok:Zvb F l
theorem Zda.is {o:Own} {w:World} {mb ge cap:Nat} {l:List EntD} {asked found:Int} {F:Phi} (h:Zda o w mb ge cap l asked found F):Zcd o w mb F:=⟨h.own,_,_,_,h.blk,.inr ⟨ge,cap,l,rfl,h.len,h.row,h.ok⟩⟩
theorem Znl {o:Own} {w:World} {mb:Nat} {asked found:Int} {F:Phi} (hown:o mb=some .memo) (hlt:Zai o w) (hmb:w.heap[mb]?=some (.cells #[.int .i64 4096,.slice none 0 0,.int .i64 asked,.int .i64 found] 148 (0,0))) (W:World)
 (hW:W=(w.setCell ⟨mb,1,none⟩ (.slice (some ⟨w.heap.size,0,none⟩) 4096 4096)).alloc (.cells (madeCells #[.int .i64 0,.int .i64 0,.int .i64 0,.int .i64 0,.int .i64 0,.bool false] 24576) 212)) :
 ∃ o',Zda o' W mb w.heap.size 4096 (List.replicate 4096 ent0) asked found F/\Chg (fun r=>r=.memo\/r=.entries) o o' w W/\Zai o' W:=by
 have hlm:mb<w.heap.size:=hlt _ _ hown;obtain⟨w1,h1⟩:∃ w1,w1=w.setCell ⟨mb,1,none⟩ (.slice (some ⟨w.heap.size,0,none⟩) 4096 4096):=⟨_,rfl⟩;have hz:w1.heap.size=w.heap.size:=by rw[h1];simp[World.setCell]
 have hc1:Chg (fun r=>r=.memo\/r=.entries) o o w w1:=by rw[h1];exact Chg.setCell (R:=fun r=>r=.memo\/r=.entries) (p:=⟨mb,1,none⟩) (Chg.refl _ o w) hown (.inl rfl) _
 have hl1:Zai o w1:=hlt.mono hc1.size;have hm1:w1.heap[mb]?=some (.cells #[.int .i64 4096,.slice (some ⟨w.heap.size,0,none⟩) 4096 4096,.int .i64 asked,.int .i64 found] 148 (0,0)):=by rw[h1];exact Zae hmb _
 have hr:=Zo8 o w1 hl1;rw[<- h1] at hW;rw[hz] at hr;subst hW;refine⟨Zcs o w.heap.size .entries,⟨Zcv hlt (Nat.le_refl _) hown,?_,List.length_replicate,hr,Zl4 F _⟩,?_,?_⟩
 ·
  exact(Go.heap_alloc_old w1 _ (by omega)).trans hm1
 ·
  rw[<- hz];exact hc1.allocR hl1 _ (.inr rfl)
 ·
  rw[<- hz];exact hl1.allocR _ _
theorem Zda.below {o:Own} {w w':World} {mb ge cap:Nat} {l:List EntD} {asked found:Int} {F:Phi} (h:Zda o w mb ge cap l asked found F) (hlt:Zai o w) (hb:Below w.heap.size w w'):Zda o w' mb ge cap l asked found F :=
 ⟨h.own,(hb.block mb (hlt _ _ h.own)).trans h.blk,h.len,h.row.below hlt hb,h.ok⟩
theorem Zmi {o:Own} {w:World} {mb ge cap:Nat} {l:List EntD} {asked found:Int} {F:Phi} (h:Zda o w mb ge cap l asked found F) (op:Int) (a b c:Nat) :
 Calls Tryz.prog 130 #[.pointer (some ⟨mb,0,none⟩),.agg #[.int .i64 op,.int .i64 a,.int .i64 b,.int .i64 c]] w.drew fun x w'=>∃ i,i<4096/\x=.returned (.pointer (some ⟨ge,i*6,none⟩))/\Below w.drew.heap.size w.drew w' :=
 Zp3 mb ge cap op a b c w.drew (cells4 (w:=w.drew) h.blk).2.1
theorem Zda.stored {o:Own} {w:World} {mb ge cap:Nat} {l:List EntD} {asked found:Int} {F:Phi} (h:Zda o w mb ge cap l asked found F) {k:Nat} (hk:k<4096) {E:EntD} (hE:F E.op E.a E.b E.c E.r):Zda o (set6 w ge k E) mb ge cap (l.set k E) asked found F:=by
 have hg:=h.row.owner;have hne:mb≠ge:=fun e=>by subst e;have:=h.own;rw[hg] at this;cases this
 refine⟨h.own,(Zx5 hne).trans h.blk,by rw[List.length_set];exact h.len,?_,Zwg h.ok k hE⟩;have hr:=h.row;rw[show 4096=l.length from h.len.symm] at hr;have:=Zx1 (m:=l.length) hr (by rw[h.len];exact hk) E;rw[h.len] at this;exact this
theorem Yc2 (w:World) (a:Option Addr) (n c:Nat):(binOp .eql 146 (.slice a n c) (.slice none 0 0)).run Tryz.prog w=.ok (.bool a.isNone) w:=by
 have hd:Op.maxDepth=9999+1:=rfl;have h:(Op.equal 146 (.slice a n c) (.slice none 0 0)).run Tryz.prog w=.ok a.isNone w:=by
  unfold Op.equal;rw[hd];unfold Op.equalIn;simp only[Sem.run_bind,run_underlying Tryz.underlying146,Result.andThen_ok];cases a<;>simp
 simp only[binOp];simp[h]
theorem Zsu (o:Own) (mb:Nat) (F:Phi) (op:Int) (a b c r:Nat) (w:World) (h:Zcd o w mb F) (hlt:Zai o w) (hF:F op a b c r) :
 Calls Tryz.prog 102 #[.pointer (some ⟨mb,0,none⟩),.int .i64 op,.int .i64 a,.int .i64 b,.int .i64 c,.int .i64 r] w fun x w'=>x=.returned (.tuple #[])/\∃ o',Zcd o' w' mb F/\Chg (fun r=>r=.memo\/r=.entries) o o' w w'/\Zai o' w':=by
 obtain⟨ve,asked,found,hmb,hv⟩:=h.ex;obtain⟨c0,c1,c2,c3,f0⟩:=cells4 hmb;have lmb:mb<w.heap.size:=Zab c0;have HLT:=Hd hlt;have HMB:=Hd hmb;have HOWN:=Hd h.own;have HV:=Hd hv;have HF:=Hd hF;have HMK:=Hd Zkw;clear h hlt hmb hv hF;rcases HV.out with rfl|⟨ge,cap,l,rfl,hl,hrow,hok⟩
 ·
  have hmm:=Zkw w;have hnil:(binOp .eql 146 (.slice none 0 0) (.slice none 0 0)).run Tryz.prog w=.ok (.bool true) w:=Yc2 w none 0 0;have HM:=Hd (Znl (F:=F) HOWN.out HLT.out HMB.out)
  go_enter Tryz.func102,Tryz.ntmps102
  go_upto_region 3 with fail;obtain⟨W1,hW1⟩:∃ W1,W1=(w.setCell ⟨mb,1,none⟩ (.slice (some ⟨w.heap.size,0,none⟩) 4096 4096)).alloc (.cells (madeCells #[.int .i64 0,.int .i64 0,.int .i64 0,.int .i64 0,.int .i64 0,.bool false] 24576) 212):=⟨_,rfl⟩;rw[<- hW1];obtain⟨o1,hm1,hc1,hl1⟩:=HM.out W1 hW1;have HM1:=Hd hm1;have HC1:=Hd hc1;have HL1:=Hd hl1;clear hm1 hc1 hl1 hW1 HM hmm hnil c0 c1 c2 c3 f0 lmb HV HMB HOWN HMK;obtain⟨d0,d1,d2,d3,g0⟩:=cells4 HM1.out.blk;have lmb1:mb<W1.heap.size:=Zab d0;go_upto_region 4 with fail;obtain⟨bx,hbx⟩:∃ bx,bx=W1.heap.size:=⟨_,rfl⟩;obtain⟨W2,hW2⟩:∃ W2,W2=W1.alloc (.cells #[.int .i64 op,.int .i64 a,.int .i64 b,.int .i64 c] 208):=⟨_,rfl⟩;have hb2:Below W1.heap.size W1 W2:=by rw[hW2];exact Zaf _ _
  have hkb:W2.heap[bx]?=some (.cells #[.int .i64 op,.int .i64 a,.int .i64 b,.int .i64 c] 208 (0,0)):=by rw[hW2,hbx];exact heap_alloc_new W1 _
  rw[<- hW2,<- hbx];have hm2:=HM1.out.below HL1.out hb2;have hc2:=HC1.out.trans (Chg.of_below hb2 (fun r=>r=.memo\/r=.entries) _);have hl2:=HL1.out.mono hb2.size;have HM2:=Hd hm2;have HC2:=Hd hc2;have HL2:=Hd hl2;have HKB:=Hd hkb;clear hm2 hc2 hl2 hb2 hW2 hbx HM1 HC1 HL1 d0 d1 d2 d3 g0 lmb1;obtain⟨k0,k1,k2,k3,fk⟩:=cells4 hkb;clear hkb;refine Zan (fun W:World=>W.cell? ⟨bx,0,none⟩=some (.int .i64 op)/\W.cell? ⟨bx,1,none⟩=some (.int .i64 a)/\W.cell? ⟨bx,2,none⟩=some (.int .i64 b)/\W.cell? ⟨bx,3,none⟩=some (.int .i64 c)) true 7
   [(0,false),(1,false),(3,false),(4,false),(5,false),(2,true),(6,false),(7,true)] (by kernel_rfl) (by kernel_rfl) ⟨k0,k1,k2,k3⟩ ?_
  simp only[planned,Zd8]
  iterate 5
   refine Zap rfl ?_;apply Exists.intro;refine⟨fun w' hw=>?_,?_⟩
   ·
    obtain⟨q0,q1,q2,q3⟩:=hw;go_simp;rfl
   simp only[Zag]
  refine Zch (R:=fun v w'=>∃ i,i<4096/\v=.pointer (some ⟨w.heap.size,i*6,none⟩)/\Below W2.drew.heap.size W2.drew w') rfl (by go_simp) ((Zmi HM2.out op a b c).mono (fun e w' he=>?_)) ?_
  ·
   obtain⟨i,hi,rfl,hb⟩:=he;obtain⟨j0,j1,j2,j3,_⟩:=cells4 ((hb.block bx (Array.getElem?_eq_some_iff.1 HKB.out).1).trans HKB.out);exact⟨_,rfl,⟨j0,j1,j2,j3⟩,i,hi,rfl,hb⟩
  rintro v w3-⟨i,hi,rfl,hb3⟩;simp only[Zag];have hb3:Below W2.heap.size W2 w3:=(Zah W2 1).trans hb3;have hm3:=HM2.out.below HL2.out hb3;have hc3:=HC2.out.trans (Chg.of_below hb3 (fun r=>r=.memo\/r=.entries) _);have hl3:=HL2.out.mono hb3.size;obtain⟨n0,n1,n2,n3,n4,n5⟩:=Zm6 hm3.row hm3.len hi
  iterate 1
   refine Zap rfl ?_;apply Exists.intro;refine⟨fun w' hw=>?_,?_⟩
   ·
    obtain⟨q0,q1,q2,q3⟩:=hw;go_simp;rfl
   simp only[Zag]
  refine Zdd rfl rfl (Zg3 (fun j=>by have:=hm3.row.frozen j;exact this) n0 n1 n2 n3 n4 n5 ⟨op,a,b,c,r,true⟩) ?_;simp only[Zag];have hmf:=(hm3.stored hi (E:=⟨op,a,b,c,r,true⟩) HF.out).is;have hcf:=Zs1 (k:=i) (E:=⟨op,a,b,c,r,true⟩) hc3 hm3.row.owner (.inr rfl);have hlf:Zai o1 (set6 w3 w.heap.size i ⟨op,a,b,c,r,true⟩):=hl3.mono (by simp[set6,World.setCell]);obtain⟨WF,hWF⟩:∃ WF,WF=set6 w3 w.heap.size i ⟨op,a,b,c,r,true⟩:=⟨_,rfl⟩;rw[<- hWF] at hmf hcf hlf ⊢;clear n0 n1 n2 n3 n4 n5 hm3 hc3 hl3 hb3 k0 k1 k2 k3 fk hWF;go_wp2_with fail;refine bodyPost_end (results_none rfl _ _ _) rfl ?_;exact⟨rfl,o1,hmf,hcf,hlf⟩
 ·
  have HM1:Hid (Zda o w mb ge cap l asked found F):=(Hd ⟨HOWN.out,HMB.out,hl,hrow,hok⟩);have hnil:(binOp .eql 146 (.slice (some ⟨ge,0,none⟩) 4096 cap) (.slice none 0 0)).run Tryz.prog w=.ok (.bool false) w:=Yc2 w _ _ _;clear hl hrow hok
  go_enter Tryz.func102,Tryz.ntmps102
  go_upto_region 3 with fail;obtain⟨W1,hW1⟩:∃ W1,W1=w:=⟨_,rfl⟩;have HC1:Hid (Chg (fun r=>r=.memo\/r=.entries) o o w W1):=Hd (hW1 ▸ Chg.refl _ _ _);have HL1:Hid (Zai o W1):=Hd (hW1 ▸ HLT.out);rw[<- hW1] at HM1;rw[<- hW1];obtain⟨o1,ho1⟩:∃ o1,o1=o:=⟨_,rfl⟩;rw[<- ho1] at HM1 HL1;have HC1:Hid (Chg (fun r=>r=.memo\/r=.entries) o o1 w W1):=by rw[ho1];exact HC1
  clear hW1 ho1 hnil c0 c1 c2 c3 f0 lmb HV HMB HOWN HMK;obtain⟨d0,d1,d2,d3,g0⟩:=cells4 HM1.out.blk;have lmb1:mb<W1.heap.size:=Zab d0;go_upto_region 4 with fail;obtain⟨bx,hbx⟩:∃ bx,bx=W1.heap.size:=⟨_,rfl⟩;obtain⟨W2,hW2⟩:∃ W2,W2=W1.alloc (.cells #[.int .i64 op,.int .i64 a,.int .i64 b,.int .i64 c] 208):=⟨_,rfl⟩;have hb2:Below W1.heap.size W1 W2:=by rw[hW2];exact Zaf _ _
  have hkb:W2.heap[bx]?=some (.cells #[.int .i64 op,.int .i64 a,.int .i64 b,.int .i64 c] 208 (0,0)):=by rw[hW2,hbx];exact heap_alloc_new W1 _
  rw[<- hW2,<- hbx];have hm2:=HM1.out.below HL1.out hb2;have hc2:=HC1.out.trans (Chg.of_below hb2 (fun r=>r=.memo\/r=.entries) _);have hl2:=HL1.out.mono hb2.size;have HM2:=Hd hm2;have HC2:=Hd hc2;have HL2:=Hd hl2;have HKB:=Hd hkb;clear hm2 hc2 hl2 hb2 hW2 hbx HM1 HC1 HL1 d0 d1 d2 d3 g0 lmb1;obtain⟨k0,k1,k2,k3,fk⟩:=cells4 hkb;clear hkb;refine Zan (fun W:World=>W.cell? ⟨bx,0,none⟩=some (.int .i64 op)/\W.cell? ⟨bx,1,none⟩=some (.int .i64 a)/\W.cell? ⟨bx,2,none⟩=some (.int .i64 b)/\W.cell? ⟨bx,3,none⟩=some (.int .i64 c)) true 7
   [(0,false),(1,false),(3,false),(4,false),(5,false),(2,true),(6,false),(7,true)] (by kernel_rfl) (by kernel_rfl) ⟨k0,k1,k2,k3⟩ ?_
  simp only[planned,Zd8]
  iterate 5
   refine Zap rfl ?_;apply Exists.intro;refine⟨fun w' hw=>?_,?_⟩
   ·
    obtain⟨q0,q1,q2,q3⟩:=hw;go_simp;rfl
   simp only[Zag]
  refine Zch (R:=fun v w'=>∃ i,i<4096/\v=.pointer (some ⟨ge,i*6,none⟩)/\Below W2.drew.heap.size W2.drew w') rfl (by go_simp) ((Zmi HM2.out op a b c).mono (fun e w' he=>?_)) ?_
  ·
   obtain⟨i,hi,rfl,hb⟩:=he;obtain⟨j0,j1,j2,j3,_⟩:=cells4 ((hb.block bx (Array.getElem?_eq_some_iff.1 HKB.out).1).trans HKB.out);exact⟨_,rfl,⟨j0,j1,j2,j3⟩,i,hi,rfl,hb⟩
  rintro v w3-⟨i,hi,rfl,hb3⟩;simp only[Zag];have hb3:Below W2.heap.size W2 w3:=(Zah W2 1).trans hb3;have hm3:=HM2.out.below HL2.out hb3;have hc3:=HC2.out.trans (Chg.of_below hb3 (fun r=>r=.memo\/r=.entries) _);have hl3:=HL2.out.mono hb3.size;obtain⟨n0,n1,n2,n3,n4,n5⟩:=Zm6 hm3.row hm3.len hi
  iterate 1
   refine Zap rfl ?_;apply Exists.intro;refine⟨fun w' hw=>?_,?_⟩
   ·
    obtain⟨q0,q1,q2,q3⟩:=hw;go_simp;rfl
   simp only[Zag]
  refine Zdd rfl rfl (Zg3 (fun j=>by have:=hm3.row.frozen j;exact this) n0 n1 n2 n3 n4 n5 ⟨op,a,b,c,r,true⟩) ?_;simp only[Zag];have hmf:=(hm3.stored hi (E:=⟨op,a,b,c,r,true⟩) HF.out).is;have hcf:=Zs1 (k:=i) (E:=⟨op,a,b,c,r,true⟩) hc3 hm3.row.owner (.inr rfl);have hlf:Zai o1 (set6 w3 ge i ⟨op,a,b,c,r,true⟩):=hl3.mono (by simp[set6,World.setCell]);obtain⟨WF,hWF⟩:∃ WF,WF=set6 w3 ge i ⟨op,a,b,c,r,true⟩:=⟨_,rfl⟩;rw[<- hWF] at hmf hcf hlf ⊢;clear n0 n1 n2 n3 n4 n5 hm3 hc3 hl3 hb3 k0 k1 k2 k3 fk hWF;go_wp2_with fail;refine bodyPost_end (results_none rfl _ _ _) rfl ?_;exact⟨rfl,o1,hmf,hcf,hlf⟩
open Go.RowKit
theorem RowR.setCells {o:Own} {r:Role} {e:TypeId} {size n g m cap:Nat} (ys:List Value):∀ (w:World) (k:Nat) (xs:List Value),RowR o w r e size (.slice (some ⟨g,0,none⟩) m cap) n xs->k+ys.length<=xs.length ->
 RowR o (w.setCells g k ys) r e size (.slice (some ⟨g,0,none⟩) m cap) n (xs.take k++ys++xs.drop (k+ys.length)):=by
 induction ys with
 | nil=>intro w k xs h _;simpa [World.setCells] using h
 | cons y ys ih =>
   intro w k xs h hl;simp only[List.length_cons] at hl;have h1:=ih (w.setCell ⟨g,k,none⟩ y) (k+1) (xs.set k y) (h.stored k y) (by simp;omega);have e:(xs.set k y).take (k+1)++ys++(xs.set k y).drop (k+1+ys.length)=xs.take k++(y::ys)++xs.drop (k+(y::ys).length):=by
    have e1:(xs.set k y).take (k+1)=xs.take k++[y]:=by
     rw[List.set_eq_take_append_cons_drop,if_pos (by omega),List.take_append];simp;have:min k xs.length=k:=by omega
     rw[this];simp
     exact List.take_of_length_le (by simp;omega)
    have e2:(xs.set k y).drop (k+1+ys.length)=xs.drop (k+1+ys.length):=by
     rw[List.drop_set];rw[if_pos (by omega)]
    rw[e1,e2];simp[Nat.add_assoc,Nat.add_comm 1 ys.length]
   rw[e] at h1;exact h1
theorem Chg.setCells {R:Role->Prop} {o o':Own} {w0:World} {g:Nat} {r:Role} (hg:o' g=some r) (hR:R r) (ys:List Value):∀ (w:World) (k:Nat),Chg R o o' w0 w->Chg R o o' w0 (w.setCells g k ys):=by
 induction ys with
 | nil=>intro w k h;exact h
 | cons y ys ih=>intro w k h;exact ih _ _ (h.setCell (p:=⟨g,k,none⟩) hg hR y)
theorem Zjg {g b:Nat} (hb:b≠g) (ys:List Value):∀ (w:World) (k:Nat),(w.setCells g k ys).heap[b]?=w.heap[b]?:=by
 induction ys with
 | nil=>intro w k;rfl
 | cons y ys ih=>intro w k;rw[World.setCells,ih];exact Zad (p:=⟨g,k,none⟩) hb y
theorem Ycx (w:World):(zeroValue 212).run Tryz.prog w=.ok (.agg #[.int .i64 0,.int .i64 0,.int .i64 0,.int .i64 0,.int .i64 0,.bool false]) w:=by
 have s:=Zpk;cases hi:Tryz.prog.info? 212 with
 | none=>rw[hi] at s;cases s
 | some i =>
   rw[hi] at s;simp only[Option.map_some,Option.some.injEq,Prod.mk.injEq] at s;obtain⟨hz,hs,hb⟩:=s;simp[zeroValue,typeInfo,hi,hz]
theorem Yan (n:Nat):(Builtin.zeroCells (Value.cells (.agg #[.int .i64 0,.int .i64 0,.int .i64 0,.int .i64 0,.int .i64 0,.bool false])) n).toList=(List.replicate n ent0).flatMap entV:=Zi5 n
theorem Zn0 (w:World) (ty:TypeId) (ge cap n:Nat) (hc:∀ j,j<(n+1)*6->(w.cell? ⟨ge,j,none⟩).isSome=true) (hf:∀ j,w.frozen? ⟨ge,j,none⟩=false) :
 (Builtin.clear_ #[146] ty #[.slice (some ⟨ge,0,none⟩) (n+1) cap]).run Tryz.prog w=.ok (.tuple #[]) (w.setCells ge 0 ((List.replicate (n+1) ent0).flatMap entV)):=by
 have hlen:((List.replicate (n+1) ent0).flatMap entV).length=(n+1)*6:=by rw[Za6 entV 6 Zbm,List.length_replicate]
 have hst:=run_storeCells_cells (P:=Tryz.prog) ge 0 ((List.replicate (n+1) ent0).flatMap entV) 0 w (fun j hj=>by rw[hlen] at hj;simpa using hc j hj) (fun j _=>hf _) (fun v hv=>by
  rw[List.mem_flatMap] at hv;obtain⟨E,_,hv⟩:=hv;simp only[entV,List.mem_cons,List.not_mem_nil,or_false] at hv;rcases hv with rfl|rfl|rfl|rfl|rfl|rfl<;>rfl)
 unfold Builtin.clear_;simp only[List.getElem?_toArray,List.getElem?_cons_zero,Sem.run_bind,run_underlying Tryz.underlying146,Result.andThen_ok,Ycx,Yan,hst];rfl
theorem Zqc (w:World) (ty:TypeId) (ge cap:Nat) (hc:∀ j,j<4096*6->(w.cell? ⟨ge,j,none⟩).isSome=true) (hf:∀ j,w.frozen? ⟨ge,j,none⟩=false) :
 (Builtin.clear_ #[146] ty #[.slice (some ⟨ge,0,none⟩) 4096 cap]).run Tryz.prog w=.ok (.tuple #[]) (w.setCells ge 0 ((List.replicate 4096 ent0).flatMap entV)):=Zn0 w ty ge cap 4095 hc hf
theorem Zn1 (w:World) (ty:TypeId):(Builtin.clear_ #[146] ty #[.slice none 0 0]).run Tryz.prog w=.ok (.tuple #[]) w:=by
 unfold Builtin.clear_;simp only[List.getElem?_toArray,List.getElem?_cons_zero,Sem.run_bind,run_underlying Tryz.underlying146,Result.andThen_ok];rfl
theorem Zt2 (o:Own) (mb:Nat) (F G:Phi) (w:World) (h:Zcd o w mb F) (hlt:Zai o w) :
 Calls Tryz.prog 64 #[.pointer (some ⟨mb,0,none⟩)] w fun x w'=>x=.returned (.tuple #[])/\Zcd o w' mb G/\Chg (· = .entries) o o w w'/\Zai o w':=by
 obtain⟨ve,asked,found,hmb,hv⟩:=h.ex;have hown:=h.own;obtain⟨c0,c1,c2,c3,f0⟩:=cells4 hmb;rcases hv with rfl|⟨ge,cap,l,rfl,hl,hrow,hok⟩
 ·
  have hr:=Zn1 w 0;have HF:=Hd (show Zcd o w mb G from ⟨h.own,_,_,_,hmb,.inl rfl⟩);have HL:=Hd hlt;clear h hlt hmb hown
  go_enter Tryz.func64,Tryz.ntmps64
  go_wp2_with fail;refine bodyPost_end (results_none rfl _ _ _) rfl ?_;exact⟨rfl,HF.out,Chg.refl _ _ _,HL.out⟩
 ·
  have hg:=hrow.owner;have hne:mb≠ge:=fun e=>by subst e;rw[hg] at hown;cases hown
  have hxl:(l.flatMap entV).length=4096*6:=by rw[Za6 entV 6 Zbm,hl]
  have hr:=Zqc w 0 ge cap (fun j hj=>by rw[hrow.cell j (by rw[hxl];exact hj),List.getElem?_eq_getElem (by rw[hxl];exact hj)];rfl) hrow.frozen;obtain⟨W,hW⟩:∃ W,W=w.setCells ge 0 ((List.replicate 4096 ent0).flatMap entV):=⟨_,rfl⟩;rw[<- hW] at hr;have hrl:((List.replicate 4096 ent0).flatMap entV).length=4096*6:=by rw[Za6 entV 6 Zbm,List.length_replicate]
  have hrow2:RowR o W .entries 212 6 (.slice (some ⟨ge,0,none⟩) 4096 cap) 4096 ((List.replicate 4096 ent0).flatMap entV):=by
   have:=RowR.setCells ((List.replicate 4096 ent0).flatMap entV) w 0 _ hrow (by rw[hrl,hxl];omega);rw[List.take_zero,List.nil_append,Nat.zero_add,List.drop_of_length_le (by rw[hrl,hxl];exact Nat.le_refl _),List.append_nil,<- hW] at this;exact this
  have hcW:Chg (· = .entries) o o w W:=by rw[hW];exact Chg.setCells (R:=(· = .entries)) hg rfl _ _ _ (Chg.refl _ _ _)
  have HF:=Hd (show Zcd o W mb G from ⟨hown,_,_,_,(by rw[hW];exact(Zjg hne _ _ _).trans hmb),.inr ⟨ge,cap,_,rfl,List.length_replicate,hrow2,Zl4 G _⟩⟩);have HL:=Hd (hlt.mono hcW.size);have HC:=Hd hcW;clear h hlt hmb hown hl hrow hok hg hxl hrl hrow2 hcW hW hne
  go_enter Tryz.func64,Tryz.ntmps64
  go_wp2_with fail;refine bodyPost_end (results_none rfl _ _ _) rfl ?_;exact⟨rfl,HF.out,HC.out,HL.out⟩
open Go.RowKit
theorem Zzm (o:Own) (F:Phi) (w:World) (hlt:Zai o w) :
 Calls Tryz.prog 34 #[.int .i64 4096] w fun x w'=>∃ mb o',x=.returned (.pointer (some ⟨mb,0,none⟩))/\Zcd o' w' mb F/\Chg (· = .memo) o o' w w'/\Zai o' w'/\w.heap.size<=mb:=by
 have HL:=Hd hlt;clear hlt
 go_enter Tryz.func34,Tryz.ntmps34
 go_wp2_with fail;go_ret;exact⟨w.heap.size,Zcs o w.heap.size .memo,rfl,⟨Za5 _ _ _,_,_,_,heap_alloc_new w _,.inl rfl⟩,(Chg.refl _ o w).allocR HL.out _ rfl,HL.out.allocR _ _,Nat.le_refl _⟩
theorem Zb2 {P:Program} (w:World) (T:TypeId):(Instr.makeMap T none).run P w=.ok (.map (some w.heap.size)) (w.alloc (.map #[] 0)):=rfl
theorem Zzq (o:Own) (v:Nat) (w:World) (hlt:Zai o w) :
 Calls Tryz.prog 78 #[] w fun x w'=>∃ t o',x=.returned (.pointer (some ⟨t,0,none⟩))/\Zc0 o' w' v t (fun _=>none)/\Chg (fun r=>r=.tab v\/r=.tmap v) o o' w w'/\Zai o' w'/\w.heap.size<=t:=by
 have HL:=Hd hlt;have hm:=Zb2 (P:=Tryz.prog) w 191;clear hlt
 go_enter Tryz.func78,Tryz.ntmps78
 go_wp2_with fail;go_ret;have hl1:=HL.out.allocR (.map #[] 0) (.tmap v);have hc1:=((Chg.refl (fun r=>r=.tab v\/r=.tmap v) o w).allocR (r:=.tmap v) HL.out (.map #[] 0) (.inr rfl));have hl2:=hl1.allocR (.cells #[.map (some w.heap.size)] 193) (.tab v);have hc2:=hc1.allocR (r:=.tab v) hl1 (.cells #[.map (some w.heap.size)] 193) (.inl rfl);have hz:(w.alloc (.map #[] 0)).heap.size=w.heap.size+1:=by simp
 have hlt1:w.heap.size<(w.alloc (.map #[] 0)).heap.size:=by rw[hz];omega
 refine⟨w.heap.size+1,_,rfl,⟨by rw[<- hz];exact Za5 _ _ _,w.heap.size,[],by rw[<- hz];exact heap_alloc_new _ _,Zcv hl1 (Nat.le_refl _) (Za5 _ _ _),⟨⟨#[],0,(Go.heap_alloc_old _ _ hlt1).trans (heap_alloc_new w _),rfl,by simp,by simp⟩,by simp⟩,fun k=>rfl⟩,hc2,hl2,by omega⟩
open Go.RowKit
section
variable {P:Program} {S:World->Prop} {Q:Exit->Act->World->Prop} {m:Nat}
structure Left (P:Program) (l:List Oper) (Q:Exit->Act->World->Prop) (S:World->Prop) (m f:Nat) (L:Array Bool) (a:Act) (w:World):Prop where
 goes:Closed l.toArray L->S w->Zlb P l.toArray (NP Q) S m f L a w
theorem Zey {id:Nat} {a:Act} {w:World} {l:List Oper} (S:World->Prop) (m:Nat) (hm:P.follows .mixedOrders=true) (hS:S w.drew)
 (h:Left P l Q S m l.length (Array.replicate l.toArray.size false) a w.drew):(Code.region id l.toArray true).wp P Q a w :=
 Ztn (wp_region_any hm (Zgy _ _ _ _ (h.goes (Zej _) hS)))
theorem Zwy {l:List Oper} {f:Nat} {L:Array Bool} {a:Act} {w:World} (i:Nat) (o:Oper) (v:Value) (hi:l[i]?=some o)
 (hB:(Region.noSelect l.toArray&&(Region.ready .any l.toArray L).contains i&&Region.free .any l.toArray L i&&(decide (l.toArray.size<=m)||reaches l.toArray l.toArray.size i m))=true)
 (hy:∀ w,S w->YieldsIf P l.toArray S o v a) (h:Left P l Q S m f (L.setIfInBounds i true) (a.put o.dst v) w):Left P l Q S m (f+1) L a w:=by
 refine⟨fun hc hS=>?_⟩;simp only[Bool.and_eq_true] at hB;obtain⟨⟨⟨hs,hr⟩,hf⟩,hm⟩:=hB;have hi':l.toArray[i]?=some o:=by simpa using hi
 have hr':i∈Region.ready .any l.toArray L:=by simpa using hr
 exact Zgh hi' hs (fun _ _ _ _ _ h=>h) hm f L a w hc (Region.free_spec hi' hf) hr' (hy w hS) hS (h.goes (hc.set hr') hS)
theorem Zbf {l:List Oper} {f:Nat} {L:Array Bool} {a:Act} {w:World} (i:Nat) {o:Oper} (hi:l[i]?=some o) (hg:o.guard=none)
 (hB:(Region.noSelect l.toArray&&(Region.ready .any l.toArray L).contains i&&Region.free .any l.toArray L i&&(decide (l.toArray.size<=m)||reaches l.toArray l.toArray.size i m))=true)
 (h:∃ v,(∀ w,S w->(execOp a.eval o).run P w=.ok (.value v) w)/\Left P l Q S m f (L.setIfInBounds i true) (a.put o.dst v) w):Left P l Q S m (f+1) L a w:=by
 obtain⟨v,h1,h2⟩:=h;exact Zwy i o v hi hB (fun w _=>.inl ⟨by simp[Region.wanted,hg],h1⟩) h2
theorem Zdv {l:List Oper} {f:Nat} {L:Array Bool} {a:Act} {w:World} (is:List Nat) (hr:(decide (Region.ready .any l.toArray L=is) && !is.isEmpty)=true)
 (h:∀ i∈is,S w->∀ o,l[i]?=some o->Region.wanted o (yielded l.toArray a.tmps)=true/\o.wp P a w (fun a' w'=>S w'/\Left P l Q S m f (L.setIfInBounds i true) a' w') (NP Q)):Left P l Q S m (f+1) L a w:=by
 refine⟨fun hc hS=>?_⟩;simp only[Bool.and_eq_true,decide_eq_true_eq] at hr;obtain⟨hr,hne⟩:=hr;refine⟨fun h0=>(by rw[h0] at hr;subst hr;simp at hne),fun i hi=>?_⟩;have hi2:i∈is:=by rw[<- hr];exact hi
 obtain⟨_,o,ho,_⟩:=mem_ready.1 hi;obtain⟨hw,hwp⟩:=h i hi2 hS o (by simpa using ho);unfold wpOp;rw[ho];simp only[hw,if_true];left;refine Oper.wp_mono ?_ hwp;intro a' w' ⟨h1,h2⟩;exact⟨.inr h1,h2.goes (hc.set hi) h1⟩
theorem Zjn {l:List Oper} {L:Array Bool} {a:Act} {w:World} (hr:(Region.ready .any l.toArray L).isEmpty=true) (h:Q .normal a w):Left P l Q S m 0 L a w :=
 ⟨fun _ _=>⟨by simpa [List.isEmpty_iff] using hr,h⟩⟩
theorem Zca {o:Oper} {a:Act} {w w':World} {v:Value} {K:Act->World->Prop} {Q:Exit->Act->World->Prop} (he:(execOp a.eval o).run P w=.ok (.value v) w') (h:K (a.put o.dst v) w'):o.wp P a w K Q:=by
 unfold Oper.wp;rw[he];exact h
end
open Go.RowKit
def pool0 (room:Nat):Zak:=⟨room,[rn0],[false],[],0⟩
abbrev Zbg:Obj:=.cells #[.int .i64 0,.int .i64 0,.int .i64 0,.int .i64 0,.int .i64 0] 65
abbrev Zbh:Obj:=.cells #[.bool false] 4
theorem Zst {o:Own} {w:World} {pb gs gt room:Nat} (hr:room<=1048576) (hop:o pb=some .pool) (hos:o gs=some .slots) (hot:o gt=some .taken)
 (hpb:w.heap[pb]?=some (.cells #[.int .i64 room,.slice (some ⟨gs,0,none⟩) 1 1,.slice (some ⟨gt,0,none⟩) 1 1,.slice none 0 0,.int .i64 0] 190 (0,0)))
 (hs:w.heap[gs]?=some Zbg) (ht:w.heap[gt]?=some Zbh):Zao o w pb (pool0 room):=by
 refine⟨hop,⟨_,_,_,hpb,⟨rfl,.inr ⟨gs,1,_,rfl,hos,hs,Nat.le_refl _,by decide,by decide,rfl⟩⟩,⟨rfl,.inr ⟨gt,1,_,rfl,hot,ht,Nat.le_refl _,by decide,by decide,rfl⟩⟩,RowR.nil _ _ _ _ _⟩,rfl,hr,by simp[pool0],rfl,by simp[pool0],?_,rfl,by simp[pool0],by simp[pool0],?_⟩
 ·
  intro i hi;have:(pool0 room).tk i=false:=by
   cases i<;>rfl
  rw[this] at hi;cases hi
 ·
  simp[pool0,Zar,Zak.tk]
theorem Zuj:madeCells (Value.cells (.agg #[.int .i64 0,.int .i64 0,.int .i64 0,.int .i64 0,.int .i64 0])) (Int.toNat 1*5)=#[.int .i64 0,.int .i64 0,.int .i64 0,.int .i64 0,.int .i64 0]:=by kernel_rfl
theorem Zuk:madeCells (Value.cells (.bool false)) (Int.toNat 1*1)=#[.bool false]:=by kernel_rfl
theorem Zn2 (w:World):(Instr.makeSlice 63 (.int .i64 1) (.int .i64 1)).run Tryz.prog w=.ok (.slice (some ⟨w.heap.size,0,none⟩) 1 1) (w.alloc Zbg):=by
 have s:=Zjm;cases hi:Tryz.prog.info? 65 with
 | none=>rw[hi] at s;cases s
 | some i =>
   rw[hi] at s;simp only[Option.map_some,Option.some.injEq,Prod.mk.injEq] at s;obtain⟨hz,hs,hb⟩:=s;have:=run_make (P:=Tryz.prog) w 63 65 i _ Tryz.underlying63 hi hz .i64 .i64 1 1 (by decide) (by decide) (by rw[hb];decide) (by decide);rw[hs,Zuj] at this;exact this
theorem Zn3 (w:World):(Instr.makeSlice 54 (.int .i64 1) (.int .i64 1)).run Tryz.prog w=.ok (.slice (some ⟨w.heap.size,0,none⟩) 1 1) (w.alloc Zbh):=by
 have s:=Zng;cases hi:Tryz.prog.info? 4 with
 | none=>rw[hi] at s;cases s
 | some i =>
   rw[hi] at s;simp only[Option.map_some,Option.some.injEq,Prod.mk.injEq] at s;obtain⟨hz,hs,hb⟩:=s;have:=run_make (P:=Tryz.prog) w 54 4 i _ Tryz.underlying54 hi hz .i64 .i64 1 1 (by decide) (by decide) (by rw[hb];decide) (by decide);rw[hs,Zuk] at this;exact this
abbrev NewR (r:Role):Prop:=r=.pool\/r=.slots\/r=.taken
theorem made2 {o:Own} {w:World} (hlt:Zai o w) (A B C:Obj) (ra rb:Role) (h1:NewR ra) (h2:NewR rb) :
 ∃ o',o' w.heap.size=some ra/\o' (w.heap.size+1)=some rb/\o' (w.heap.size+2)=some .pool/\Chg NewR o o' w (((w.alloc A).alloc B).alloc C)/\Zai o' (((w.alloc A).alloc B).alloc C) /\
  (((w.alloc A).alloc B).alloc C).heap[w.heap.size]?=some A/\(((w.alloc A).alloc B).alloc C).heap[w.heap.size+1]?=some B/\(((w.alloc A).alloc B).alloc C).heap[w.heap.size+2]?=some C:=by
 have z1:(w.alloc A).heap.size=w.heap.size+1:=by simp
 have z2:((w.alloc A).alloc B).heap.size=w.heap.size+2:=by simp
 have l1:=hlt.allocR A ra;have c1:=(Chg.refl NewR o w).allocR hlt A h1;have l2:=l1.allocR B rb;have c2:=c1.allocR l1 B h2;have l3:=l2.allocR C .pool;have c3:=c2.allocR l2 C (show NewR .pool from .inl rfl);refine⟨_,?_,?_,?_,c3,l3,?_,?_,?_⟩
 ·
  exact Zcv l2 (Nat.le_refl _) (Zcv l1 (Nat.le_refl _) (Za5 _ _ _))
 ·
  rw[<- z1];exact Zcv l2 (Nat.le_refl _) (Za5 _ _ _)
 ·
  rw[<- z2];exact Za5 _ _ _
 ·
  rw[Go.heap_alloc_old _ _ (by omega),Go.heap_alloc_old _ _ (by omega)];exact heap_alloc_new w A
 ·
  rw[Go.heap_alloc_old _ _ (by omega),<- z1];exact heap_alloc_new _ B
 ·
  rw[<- z2];exact heap_alloc_new _ C
theorem Zzn (o:Own) (room:Nat) (w:World) (hlt:Zai o w) (h1:1<=room) (h2:room<=1048576) :
 Calls Tryz.prog 76 #[.int .i64 room] w fun x w'=>∃ pb o',x=.returned (.tuple #[.pointer (some ⟨pb,0,none⟩),.int .i64 0])/\Zao o' w' pb (pool0 room)/\Chg NewR o o' w w'/\Zai o' w'/\w.heap.size<=pb:=by
 have HL:=Hd hlt;have b1:(1:Int)<=room:=by omega
 have b2:(room:Int)<=1048576:=by omega
 have HMS:=Hd Zn2;have HMT:=Hd Zn3;clear hlt
 go_enter Tryz.func76,Tryz.ntmps76
 go_upto_region 3 with fail;refine Zey (fun W=>True) 7 (by kernel_rfl) trivial ?_;refine Zbf 0 rfl rfl (by kernel_rfl) ?_;apply Exists.intro;refine⟨fun w' hw=>?_,?_⟩
 ·
  go_simp;rfl
 simp only[Zag];refine Zdv [1,2] (by kernel_rfl) (fun i hi hS o ho=>?_);simp only[Zhu] at hi;rcases hi with rfl|rfl
 ·
  simp only[Zg7] at ho;subst ho;refine⟨rfl,?_⟩;have hm:=HMS.out w.drew;rw[show w.drew.heap.size=w.heap.size from rfl] at hm;refine Zca (v:=.slice (some ⟨w.heap.size,0,none⟩) 1 1) (w':=w.drew.alloc Zbg) (by go_simp) ⟨trivial,?_⟩;simp only[Zag];refine Zdv [2] (by kernel_rfl) (fun i hi hS o ho=>?_);simp only[Zhu] at hi;subst hi;simp only[Zg7] at ho;subst ho;refine⟨rfl,?_⟩;have hm:(Instr.makeSlice 54 (.int .i64 1) (.int .i64 1)).run Tryz.prog (w.alloc Zbg).drew=.ok (.slice (some ⟨w.heap.size+1,0,none⟩) 1 1) ((w.alloc Zbg).alloc Zbh).drew:=by
   have:=HMT.out (w.alloc Zbg).drew;rw[show (w.alloc Zbg).drew.heap.size=w.heap.size+1 from World.size_alloc w _] at this;exact this
  refine Zca (v:=.slice (some ⟨w.heap.size+1,0,none⟩) 1 1) (w':=((w.alloc Zbg).alloc Zbh).drew) (by go_simp) ⟨trivial,?_⟩;simp only[Zag];refine Zbf 3 rfl rfl (by kernel_rfl) ?_;apply Exists.intro;refine⟨fun w' hw=>?_,?_⟩
  ·
   go_simp;rfl
  simp only[Zag];refine Zdv [4] (by kernel_rfl) (fun i hi hS o ho=>?_);simp only[Zhu] at hi;subst hi;simp only[Zg7] at ho;subst ho;refine⟨rfl,?_⟩;have hz:((w.alloc Zbg).alloc Zbh).heap.size=w.heap.size+2:=by simp
  refine Zca (v:=.pointer (some ⟨w.heap.size+2,0,none⟩)) (w':=(((w.alloc Zbg).alloc Zbh).alloc (.cells #[.int .i64 room,.slice (some ⟨w.heap.size,0,none⟩) 1 1,.slice (some ⟨(w.heap.size+1),0,none⟩) 1 1,.slice none 0 0,.int .i64 0] 190)).drew) (by go_simp) ⟨trivial,?_⟩;simp only[Zag];refine Zbf 5 rfl rfl (by kernel_rfl) ?_;apply Exists.intro;refine⟨fun w' hw=>?_,?_⟩
  ·
   go_simp;rfl
  simp only[Zag];refine Zbf 6 rfl rfl (by kernel_rfl) ?_;apply Exists.intro;refine⟨fun w' hw=>?_,?_⟩
  ·
   go_simp;rfl
  simp only[Zag];refine Zjn (by kernel_rfl) ?_;obtain⟨o',q1,q2,q3,q4,q5,q6,q7,q8⟩:=made2 HL.out Zbg Zbh (.cells #[.int .i64 room,.slice (some ⟨w.heap.size,0,none⟩) 1 1,.slice (some ⟨(w.heap.size+1),0,none⟩) 1 1,.slice none 0 0,.int .i64 0] 190) .slots .taken (.inr (.inl rfl)) (.inr (.inr rfl));have hfin:Zao o' (((w.alloc Zbg).alloc Zbh).alloc (.cells #[.int .i64 room,.slice (some ⟨w.heap.size,0,none⟩) 1 1,.slice (some ⟨(w.heap.size+1),0,none⟩) 1 1,.slice none 0 0,.int .i64 0] 190)).drew (w.heap.size+2) (pool0 room):=Zst h2 q3 q1 q2 q8 q6 q7;have q4':=q4.drew;have q5':Zai o' (((w.alloc Zbg).alloc Zbh).alloc (.cells #[.int .i64 room,.slice (some ⟨w.heap.size,0,none⟩) 1 1,.slice (some ⟨(w.heap.size+1),0,none⟩) 1 1,.slice none 0 0,.int .i64 0] 190)).drew:=q5;clear q1 q2 q3 q4 q5 q6 q7 q8 hm hz;go_wp2_with fail
  go_ret2
  exact⟨w.heap.size+2,o',rfl,hfin,q4',q5',by omega⟩
 ·
  simp only[Zg7] at ho;subst ho;refine⟨rfl,?_⟩;have hm:=HMT.out w.drew;rw[show w.drew.heap.size=w.heap.size from rfl] at hm;refine Zca (v:=.slice (some ⟨w.heap.size,0,none⟩) 1 1) (w':=w.drew.alloc Zbh) (by go_simp) ⟨trivial,?_⟩;simp only[Zag];refine Zdv [1] (by kernel_rfl) (fun i hi hS o ho=>?_);simp only[Zhu] at hi;subst hi;simp only[Zg7] at ho;subst ho;refine⟨rfl,?_⟩;have hm:(Instr.makeSlice 63 (.int .i64 1) (.int .i64 1)).run Tryz.prog (w.alloc Zbh).drew=.ok (.slice (some ⟨w.heap.size+1,0,none⟩) 1 1) ((w.alloc Zbh).alloc Zbg).drew:=by
   have:=HMS.out (w.alloc Zbh).drew;rw[show (w.alloc Zbh).drew.heap.size=w.heap.size+1 from World.size_alloc w _] at this;exact this
  refine Zca (v:=.slice (some ⟨w.heap.size+1,0,none⟩) 1 1) (w':=((w.alloc Zbh).alloc Zbg).drew) (by go_simp) ⟨trivial,?_⟩;simp only[Zag];refine Zbf 3 rfl rfl (by kernel_rfl) ?_;apply Exists.intro;refine⟨fun w' hw=>?_,?_⟩
  ·
   go_simp;rfl
  simp only[Zag];refine Zdv [4] (by kernel_rfl) (fun i hi hS o ho=>?_);simp only[Zhu] at hi;subst hi;simp only[Zg7] at ho;subst ho;refine⟨rfl,?_⟩;have hz:((w.alloc Zbh).alloc Zbg).heap.size=w.heap.size+2:=by simp
  refine Zca (v:=.pointer (some ⟨w.heap.size+2,0,none⟩)) (w':=(((w.alloc Zbh).alloc Zbg).alloc (.cells #[.int .i64 room,.slice (some ⟨(w.heap.size+1),0,none⟩) 1 1,.slice (some ⟨w.heap.size,0,none⟩) 1 1,.slice none 0 0,.int .i64 0] 190)).drew) (by go_simp) ⟨trivial,?_⟩;simp only[Zag];refine Zbf 5 rfl rfl (by kernel_rfl) ?_;apply Exists.intro;refine⟨fun w' hw=>?_,?_⟩
  ·
   go_simp;rfl
  simp only[Zag];refine Zbf 6 rfl rfl (by kernel_rfl) ?_;apply Exists.intro;refine⟨fun w' hw=>?_,?_⟩
  ·
   go_simp;rfl
  simp only[Zag];refine Zjn (by kernel_rfl) ?_;obtain⟨o',q1,q2,q3,q4,q5,q6,q7,q8⟩:=made2 HL.out Zbh Zbg (.cells #[.int .i64 room,.slice (some ⟨(w.heap.size+1),0,none⟩) 1 1,.slice (some ⟨w.heap.size,0,none⟩) 1 1,.slice none 0 0,.int .i64 0] 190) .taken .slots (.inr (.inr rfl)) (.inr (.inl rfl));have hfin:Zao o' (((w.alloc Zbh).alloc Zbg).alloc (.cells #[.int .i64 room,.slice (some ⟨(w.heap.size+1),0,none⟩) 1 1,.slice (some ⟨w.heap.size,0,none⟩) 1 1,.slice none 0 0,.int .i64 0] 190)).drew (w.heap.size+2) (pool0 room):=Zst h2 q3 q2 q1 q8 q7 q6;have q4':=q4.drew;have q5':Zai o' (((w.alloc Zbh).alloc Zbg).alloc (.cells #[.int .i64 room,.slice (some ⟨(w.heap.size+1),0,none⟩) 1 1,.slice (some ⟨w.heap.size,0,none⟩) 1 1,.slice none 0 0,.int .i64 0] 190)).drew:=q5;clear q1 q2 q3 q4 q5 q6 q7 q8 hm hz;go_wp2_with fail
  go_ret2
  exact⟨w.heap.size+2,o',rfl,hfin,q4',q5',by omega⟩
open Go.RowKit
structure Zac where
 vars:List Nat
 level:List Nat
 pool:Zak
 tab:Nat->Nat×Nat->Option Nat
 counts:List Nat
 dead:Nat
structure Za0 where
 lb:Nat
 pb:Nat
 vv:Value
 vl:Value
 vt:Value
 vc:Value
 ts:List Nat
def ptrV (b:Nat):Value:=.pointer (some ⟨b,0,none⟩)
structure Zal (o:Own) (w:World) (sb:Nat) (d:Zac) (s:Za0):Prop where
 own:o sb=some .store
 ownl:o s.lb=some .levels
 blk:w.heap[sb]?=some (.cells #[.pointer (some ⟨s.lb,0,none⟩),.pointer (some ⟨s.pb,0,none⟩),s.vt,s.vc,.int .i64 d.dead] 143 (0,0))
 lev:w.heap[s.lb]?=some (.cells #[s.vv,s.vl] 140 (0,0))
 vars:RowR o w .vars 3 1 s.vv d.vars.length (d.vars.map nat64)
 level:RowR o w .level 3 1 s.vl d.level.length (d.level.map nat64)
 pool:Zao o w s.pb d.pool
 tabs:RowR o w .tabs 144 1 s.vt s.ts.length (s.ts.map ptrV)
 tab:∀ v,v<s.ts.length->Zc0 o w v (s.ts.getD v 0) (d.tab v)
 counts:RowR o w .counts 3 1 s.vc d.counts.length (d.counts.map nat64)
 len:d.level.length=d.vars.length
 tlen:s.ts.length=d.vars.length
def Zaq (o:Own) (w:World) (sb:Nat) (d:Zac):Prop:=∃ s,Zal o w sb d s
theorem Zal.below {o:Own} {w w':World} {sb:Nat} {d:Zac} {s:Za0} (h:Zal o w sb d s) (hlt:Zai o w) (hb:Below w.heap.size w w'):Zal o w' sb d s :=
 ⟨h.own,h.ownl,(hb.block sb (hlt _ _ h.own)).trans h.blk,(hb.block s.lb (hlt _ _ h.ownl)).trans h.lev,h.vars.below hlt hb,h.level.below hlt hb,h.pool.below hb hlt,h.tabs.below hlt hb,fun v hv=>(h.tab v hv).below hb hlt,h.counts.below hlt hb,h.len,h.tlen⟩
def Zac.levelOf (d:Zac) (v:Nat):Int:=if v<d.level.length then (d.level.getD v 0:Nat) else -1
theorem cells2 {w:World} {g:Nat} {a b:Value} {T:TypeId} (h:w.heap[g]?=some (.cells #[a,b] T (0,0))):w.cell? ⟨g,0,none⟩=some a/\w.cell? ⟨g,1,none⟩=some b/\(∀ k,w.frozen? ⟨g,k,none⟩=false) :=
 ⟨by rw[cell_of_row w g 0 _ _ _ h];rfl,by rw[cell_of_row w g 1 _ _ _ h];rfl,fun k=>by simp[World.frozen?,h]⟩
theorem Zko {o:Own} {w:World} {sb:Nat} {d:Zac} {s:Za0} (h:Zal o w sb d s) (v:Nat) (hbig:d.level.length<1000000) :
 Calls Tryz.prog 115 #[.pointer (some ⟨s.lb,0,none⟩),.int .i64 v] w fun x w'=>x=.returned (.int .i64 (d.levelOf v))/\w=w':=by
 obtain⟨c0,c1,_⟩:=cells2 h.lev;obtain⟨a,cap,hvl,_⟩:=h.level.slice;rw[hvl] at c1;have hrow:=h.level;rw[hvl] at hrow
 by_cases hv:v<d.level.length
 ·
  obtain⟨g,cap',he,_⟩:=hrow.shape (by omega);cases he;have hx:=hrow.cell v (by simpa using hv);have hval:(d.level.map nat64)[v]?=some (.int .i64 ((d.level.getD v 0:Nat):Int)):=by
   rw[List.getElem?_map,List.getElem?_eq_getElem hv];simp[nat64,List.getD,hv]
  rw[hval] at hx;have hv':(v:Int)<d.level.length:=by omega
  have hr:d.levelOf v=((d.level.getD v 0:Nat):Int):=by simp[Zac.levelOf,hv]
  rw[hr];obtain⟨L,hL⟩:∃ L:Int,L=((d.level.getD v 0:Nat):Int):=⟨_,rfl⟩;rw[<- hL] at hx ⊢;clear h hrow hvl hval hr hL
  go_enter Tryz.func115,Tryz.ntmps115
  go_wp2_with fail;go_ret;exact⟨rfl,rfl⟩
 ·
  have hv':(d.level.length:Int)<=v:=by omega
  have hr:d.levelOf v = -1:=by simp[Zac.levelOf,hv]
  rw[hr];clear h hrow hvl hr
  go_enter Tryz.func115,Tryz.ntmps115
  go_wp2_with fail;go_ret;exact⟨rfl,rfl⟩
theorem Zew {o:Own} {w:World} {sb:Nat} {d:Zac} {s:Za0} (h:Zal o w sb d s) (v:Nat) (hbig:d.level.length<1000000) :
 Calls Tryz.prog 69 #[.pointer (some ⟨sb,0,none⟩),.int .i64 v] w fun x w'=>x=.returned (.int .i64 (d.levelOf v))/\w=w':=by
 obtain⟨c0,c1,c2,c3,c4,f0⟩:=cells5 h.blk;have HC:=Hd (Zko h v hbig);clear h
 go_enter Tryz.func69,Tryz.ntmps69
 go_wp2_with fail;refine HC.out.mono ?_;rintro x w' ⟨rfl,rfl⟩;go_wp2_with fail;go_ret;exact⟨rfl,rfl⟩
open Go.RowKit
def Zak.has (p:Zak) (i:Nat):RN:=if p.tk i=true then p.nd i else rn0
theorem Zcp (o:Own) (pb:Nat) (p:Zak) (i:Nat) (w:World) (h:Zao o w pb p) (hlt:Zai o w) :
 Calls Tryz.prog 119 #[.pointer (some ⟨pb,0,none⟩),.int .i64 i] w fun x w'=>x=.returned (.tuple #[Zau (p.has i),.bool (p.tk i)])/\Below w.heap.size w w':=by
 by_cases hi:p.tk i=true
 ·
  have:=Zmk o pb p i w h hlt hi;unfold Zak.has;rw[if_pos hi,hi];exact this
 ·
  have hi':p.tk i=false:=by simpa using hi
  have:=Zxt o pb p i w h hlt hi';unfold Zak.has;rw[if_neg hi,hi'];exact this
theorem Yc8 (k:Nat):(((k:Nat):Int) == 0)=decide (k=0):=by
 cases k with
 | zero=>rfl
 | succ n=>simp;omega
theorem Zb7 {P:Program} {o:Oper} {a:Act} {w:World} {v:Value} {f:FuncId} {args:Array Value} {K:Act->World->Prop} {Q:Exit->Act->World->Prop} {R:World->Prop} (he:(execOp a.eval o).run P w=.ok (.enter f args) w)
 (hc:Calls P f args w fun e w'=>e=.returned v/\R w') (h:∀ w',R w'->K (a.put o.dst v) w'):o.wp P a w K Q:=by
 unfold Oper.wp;simp only[he,Oper.upon];exact hc.mono fun e w' ⟨h1,h2⟩=>by subst h1;exact h w' h2
theorem Zmh {P:Program} {o:Oper} {a:Act} {w w':World} {t:TypeId} {s x:Operand} {K:Act->World->Prop} {Q:Exit->Act->World->Prop} (ho:o.op=.store t s x)
 (hr:(Instr.storeAt t (a.eval s) (a.eval x)).run P w=.ok () w') (h:K (a.put o.dst undef) w'):o.wp P a w K Q:=by
 unfold Oper.wp;rw[Zig ho hr];exact h
theorem Zlv {w W:World} {bx:Nat} (hb:Below w.heap.size w W) (hge:w.heap.size<=bx) (n:RN):Below w.heap.size w (set5 W bx 0 n) :=
 ((((hb.setCell (p:=⟨bx,0,none⟩) hge _).setCell (p:=⟨bx,1,none⟩) hge _).setCell (p:=⟨bx,2,none⟩) hge _).setCell (p:=⟨bx,3,none⟩) hge _).setCell (p:=⟨bx,4,none⟩) hge _
theorem Zz3 {W:World} {bx:Nat} (h:W.heap[bx]?=some (.cells #[.int .i64 0,.int .i64 0,.int .i64 0,.int .i64 0,.int .i64 0] 65 (0,0))) (n:RN) :
 (set5 W bx 0 n).heap[bx]?=some (.cells #[.int .i64 n.id,.int .i64 n.v,.int .i64 n.lo,.int .i64 n.hi,.int .i64 n.refs] 65 (0,0)) :=
 Zae (k:=4) (Zae (k:=3) (Zae (k:=2) (Zae (k:=1) (Zae (k:=0) h _) _) _) _) _
theorem Zgt (a:Act) {d:Option Tmp} {t:Tmp} (u v:Value) (h:d≠some t):(a.put (some t) u).put d v=(a.put d v).put (some t) u:=by
 cases d with
 | none=>rfl
 | some e =>
   have hne:t≠e:=fun c=>h (by rw[c])
   simp only[Act.put];rw[Array.setIfInBounds_comm _ _ hne]
theorem Ych (a:Act) (t:Tmp) (u v:Value):(a.put (some t) u).put (some t) v=a.put (some t) v:=by
 simp only[Act.put,Array.setIfInBounds_setIfInBounds]
theorem Zzx (a:Act) (t:Tmp):a.put (some t) (a.tmps.getD t undef)=a:=by
 simp only[Act.put];have:a.tmps.setIfInBounds t (a.tmps.getD t undef)=a.tmps:=by
  apply Array.ext_getElem?;intro i;rw[Array.getElem?_setIfInBounds];split
  ·
   rename_i e
   subst e;split
   ·
    rename_i hl
    simp[Array.getD,hl]
   ·
    rename_i hl
    exact(Array.getElem?_eq_none (by omega)).symm
  ·
   rfl
 rw[this]
def lwd (l:List Oper) (is:List Nat):Array Bool:=is.foldl (fun L i=>L.setIfInBounds i true) (Array.replicate l.toArray.size false)
theorem Znj (l:List Oper) (is:List Nat) (i:Nat):lwd l (is++[i])=(lwd l is).setIfInBounds i true:=by
 unfold lwd;rw[List.foldl_append];rfl
def rdR (l:List Oper) (is:List Nat) (i:Nat):Bool:=Region.noSelect l.toArray&&(Region.ready .any l.toArray (lwd l is)).contains i&&Region.free .any l.toArray (lwd l is) i&&(decide (l.toArray.size<=13)||reaches l.toArray l.toArray.size i 13)
def rdA (l:List Oper) (is js:List Nat):Bool:=decide (Region.ready .any l.toArray (lwd l is)=js) && !js.isEmpty
def rdE (l:List Oper) (is:List Nat):Bool:=(Region.ready .any l.toArray (lwd l is)).isEmpty
def andL:List Bool->Bool
 | []=>true
 | b::r=>b&&andL r
theorem Za1 {r:List Bool} (h:andL r=true) (i:Nat) {b:Bool} (hb:r[i]?=some b):b=true:=by
 induction r generalizing i with
 | nil=>simp at hb
 | cons c r ih =>
   have h2:(c&&andL r)=true:=h;rw[Bool.and_eq_true] at h2;cases i with
   | zero=>simp at hb;rw[<- hb];exact h2.1
   | succ i=>exact ih h2.2 i (by simpa using hb)
def Ydo (l:List Oper):List Bool:=[rdR l [] 0,
 rdR l ([]++[0]) 1,
 rdR l (([]++[0])++[1]) 2,
 rdR l ((([]++[0])++[1])++[2]) 3,
 rdR l (((([]++[0])++[1])++[2])++[3]) 4,
 rdA l ((((([]++[0])++[1])++[2])++[3])++[4]) [5,10],
 rdA l (((((([]++[0])++[1])++[2])++[3])++[4])++[5]) [6,10],
 rdR l ((((((([]++[0])++[1])++[2])++[3])++[4])++[5])++[6]) 7,
 rdR l (((((((([]++[0])++[1])++[2])++[3])++[4])++[5])++[6])++[7]) 8,
 rdR l ((((((((([]++[0])++[1])++[2])++[3])++[4])++[5])++[6])++[7])++[8]) 9,
 rdA l (((((((((([]++[0])++[1])++[2])++[3])++[4])++[5])++[6])++[7])++[8])++[9]) [10],
 rdA l ((((((((((([]++[0])++[1])++[2])++[3])++[4])++[5])++[6])++[7])++[8])++[9])++[10]) [11],
 rdR l (((((((((((([]++[0])++[1])++[2])++[3])++[4])++[5])++[6])++[7])++[8])++[9])++[10])++[11]) 12,
 rdE l ((((((((((((([]++[0])++[1])++[2])++[3])++[4])++[5])++[6])++[7])++[8])++[9])++[10])++[11])++[12]),
 rdA l ((((((([]++[0])++[1])++[2])++[3])++[4])++[5])++[10]) [6],
 rdR l (((((((([]++[0])++[1])++[2])++[3])++[4])++[5])++[10])++[6]) 7,
 rdR l ((((((((([]++[0])++[1])++[2])++[3])++[4])++[5])++[10])++[6])++[7]) 8,
 rdR l (((((((((([]++[0])++[1])++[2])++[3])++[4])++[5])++[10])++[6])++[7])++[8]) 9,
 rdA l ((((((((((([]++[0])++[1])++[2])++[3])++[4])++[5])++[10])++[6])++[7])++[8])++[9]) [11],
 rdR l (((((((((((([]++[0])++[1])++[2])++[3])++[4])++[5])++[10])++[6])++[7])++[8])++[9])++[11]) 12,
 rdE l ((((((((((((([]++[0])++[1])++[2])++[3])++[4])++[5])++[10])++[6])++[7])++[8])++[9])++[11])++[12]),
 rdA l (((((([]++[0])++[1])++[2])++[3])++[4])++[10]) [5],
 rdA l ((((((([]++[0])++[1])++[2])++[3])++[4])++[10])++[5]) [6],
 rdR l (((((((([]++[0])++[1])++[2])++[3])++[4])++[10])++[5])++[6]) 7,
 rdR l ((((((((([]++[0])++[1])++[2])++[3])++[4])++[10])++[5])++[6])++[7]) 8,
 rdR l (((((((((([]++[0])++[1])++[2])++[3])++[4])++[10])++[5])++[6])++[7])++[8]) 9,
 rdA l ((((((((((([]++[0])++[1])++[2])++[3])++[4])++[10])++[5])++[6])++[7])++[8])++[9]) [11],
 rdR l (((((((((((([]++[0])++[1])++[2])++[3])++[4])++[10])++[5])++[6])++[7])++[8])++[9])++[11]) 12,
 rdE l ((((((((((((([]++[0])++[1])++[2])++[3])++[4])++[10])++[5])++[6])++[7])++[8])++[9])++[11])++[12])]
abbrev Zqz:Obj:=.cells #[.int .i64 0,.int .i64 0,.int .i64 0,.int .i64 0,.int .i64 0] 65
abbrev Zvw (n:RN):Obj:=.cells #[.int .i64 n.id,.int .i64 n.v,.int .i64 n.lo,.int .i64 n.hi,.int .i64 n.refs] 65 (0,0)
section
variable {P:Program} {Q:Exit->Act->World->Prop}
theorem Zhr {S:World->Prop} {l:List Oper} {f:Nat} {is:List Nat} {a:Act} {w:World} {i:Nat} {o:Oper} (hr:rdA l is [i]=true) (ho:l[i]?=some o) (hg:o.guard=none)
 (h:S w->o.wp P a w (fun a' w'=>S w'/\Left P l Q S 13 f (lwd l (is++[i])) a' w') (NP Q)):Left P l Q S 13 (f+1) (lwd l is) a w :=
 Zdv [i] hr fun j hj hS o2 ho2=>by
  rw[List.mem_singleton] at hj;subst hj;rw[ho] at ho2;cases ho2;rw[<- Znj];exact⟨by simp[Region.wanted,hg],h hS⟩
theorem Zsk {S:World->Prop} {l:List Oper} {f:Nat} {is:List Nat} {a:Act} {w:World} {i j:Nat} {o p:Oper} (hr:rdA l is [i,j]=true) (ho:l[i]?=some o) (hp:l[j]?=some p) (hg:o.guard=none) (hq:p.guard=none)
 (h:S w->o.wp P a w (fun a' w'=>S w'/\Left P l Q S 13 f (lwd l (is++[i])) a' w') (NP Q)) (h2:S w->p.wp P a w (fun a' w'=>S w'/\Left P l Q S 13 f (lwd l (is++[j])) a' w') (NP Q)):Left P l Q S 13 (f+1) (lwd l is) a w :=
 Zdv [i,j] hr fun k hk hS o2 ho2=>by
  simp only[List.mem_cons,List.not_mem_nil,or_false] at hk;rw[<- Znj];rcases hk with rfl|rfl
  ·
   rw[ho] at ho2;cases ho2;exact⟨by simp[Region.wanted,hg],h hS⟩
  ·
   rw[hp] at ho2;cases ho2;exact⟨by simp[Region.wanted,hq],h2 hS⟩
theorem Zc1 {S:World->Prop} {l:List Oper} {f:Nat} {is:List Nat} {a:Act} {w:World} {i:Nat} {o:Oper} {v:Value} (hB:rdR l is i=true) (ho:l[i]?=some o) (hg:o.guard=none)
 (hv:∀ w,S w->(execOp a.eval o).run P w=.ok (.value v) w) (h:Left P l Q S 13 f (lwd l (is++[i])) (a.put o.dst v) w):Left P l Q S 13 (f+1) (lwd l is) a w :=
 Zbf i ho hg hB ⟨v,hv,by rw[<- Znj];exact h⟩
theorem Zd9 {id:Nat} {l:List Oper} {a:Act} {w0 w:World} {o0 o1 o2 o3 o4 o5 o6 o7 o8 o9 o10 o11 o12:Oper} {t:Tmp} {N:RN} (hl:l=[o0,o1,o2,o3,o4,o5,o6,o7,o8,o9,o10,o11,o12]) (rd:andL (Ydo l)=true) (hm:P.follows .mixedOrders=true)
 (hg:(o0.guard=none/\o1.guard=none/\o2.guard=none/\o3.guard=none/\o4.guard=none/\o5.guard=none/\o6.guard=none)/\o7.guard=none/\o8.guard=none/\o9.guard=none/\o10.guard=none/\o11.guard=none/\o12.guard=none)
 (ht:o10.dst=some t) (hne:o5.dst≠some t/\o6.dst≠some t/\o7.dst≠some t/\o8.dst≠some t/\o9.dst≠some t) (hS:Below w0.heap.size w0 w.drew)
 {v0 v1 v2 v3 v4 v5 v6 v7 v8 v9 v12:Value} {g5 g6:FuncId} {as5 as6:Array Value}
 (c5:∀ W,Below w0.heap.size w0 W->Calls P g5 as5 W fun e w'=>e=.returned v5/\W=w') (c6:∀ W,Below w0.heap.size w0 W->Calls P g6 as6 W fun e w'=>e=.returned v6/\Below W.heap.size W w')
 (h0:∀ W,Below w0.heap.size w0 W->(execOp a.eval o0).run P W=.ok (.value v0) W/\(execOp (a.put o0.dst v0).eval o1).run P W=.ok (.value v1) W/\(execOp ((a.put o0.dst v0).put o1.dst v1).eval o2).run P W=.ok (.value v2) W/\(execOp (((a.put o0.dst v0).put o1.dst v1).put o2.dst v2).eval o3).run P W=.ok (.value v3) W/\(execOp ((((a.put o0.dst v0).put o1.dst v1).put o2.dst v2).put o3.dst v3).eval o4).run P W=.ok (.value v4) W)
 (h5:∀ (x:Value) W,(execOp ((((((a.put o0.dst v0).put o1.dst v1).put o2.dst v2).put o3.dst v3).put o4.dst v4).put (some t) x).eval o5).run P W=.ok (.enter g5 as5) W/\(execOp (((((((a.put o0.dst v0).put o1.dst v1).put o2.dst v2).put o3.dst v3).put o4.dst v4).put (some t) x).put o5.dst v5).eval o6).run P W=.ok (.enter g6 as6) W)
 (h7:∀ (x:Value) (W:World) (X:Act),X=(((((((a.put o0.dst v0).put o1.dst v1).put o2.dst v2).put o3.dst v3).put o4.dst v4).put (some t) x).put o5.dst v5).put o6.dst v6->(execOp X.eval o7).run P W=.ok (.value v7) W/\(execOp (X.put o7.dst v7).eval o8).run P W=.ok (.value v8) W/\(execOp ((X.put o7.dst v7).put o8.dst v8).eval o9).run P W=.ok (.value v9) W)
 (h10:∀ (a:Act) W,(execOp a.eval o10).run P W=.ok (.value (.pointer (some ⟨W.heap.size,0,none⟩))) (W.alloc Zqz))
 (h11:∀ (bx:Nat) (W:World) (Y:Act),W.heap[bx]?=some (.cells #[.int .i64 0,.int .i64 0,.int .i64 0,.int .i64 0,.int .i64 0] 65 (0,0))->Y=((((((((((a.put o0.dst v0).put o1.dst v1).put o2.dst v2).put o3.dst v3).put o4.dst v4).put (some t) (.pointer (some ⟨bx,0,none⟩))).put o5.dst v5).put o6.dst v6).put o7.dst v7).put o8.dst v8).put o9.dst v9->(∃ T s x,o11.op=.store T s x/\(Instr.storeAt T (Y.eval s) (Y.eval x)).run P W=.ok () (set5 W bx 0 N))/\∀ W,(execOp (Y.put o11.dst undef).eval o12).run P W=.ok (.value v12) W)
 (hf:∀ (bx:Nat) (W:World),w0.heap.size<=bx->Below w0.heap.size w0 W->W.heap[bx]?=some (Zvw N)->Q .normal ((((((((((((a.put o0.dst v0).put o1.dst v1).put o2.dst v2).put o3.dst v3).put o4.dst v4).put (some t) (.pointer (some ⟨bx,0,none⟩))).put o5.dst v5).put o6.dst v6).put o7.dst v7).put o8.dst v8).put o9.dst v9).put o11.dst undef |>.put o12.dst v12) W) :
 (Code.region id l.toArray true).wp P Q a w:=by
 obtain⟨⟨q0,q1,q2,q3,q4,q5,q6⟩,q7,q8,q9,q10,q11,q12⟩:=hg;obtain⟨n5,n6,n7,n8,n9⟩:=hne;have e0:l[0]?=some o0:=by rw[hl];rfl
 have e1:l[1]?=some o1:=by rw[hl];rfl
 have e2:l[2]?=some o2:=by rw[hl];rfl
 have e3:l[3]?=some o3:=by rw[hl];rfl
 have e4:l[4]?=some o4:=by rw[hl];rfl
 have e5:l[5]?=some o5:=by rw[hl];rfl
 have e6:l[6]?=some o6:=by rw[hl];rfl
 have e7:l[7]?=some o7:=by rw[hl];rfl
 have e8:l[8]?=some o8:=by rw[hl];rfl
 have e9:l[9]?=some o9:=by rw[hl];rfl
 have e10:l[10]?=some o10:=by rw[hl];rfl
 have e11:l[11]?=some o11:=by rw[hl];rfl
 have e12:l[12]?=some o12:=by rw[hl];rfl
 have hlen:l.length=13:=by rw[hl];rfl
 clear hl;have r0:=Za1 rd 0 rfl;have r1:=Za1 rd 1 rfl;have r2:=Za1 rd 2 rfl;have r3:=Za1 rd 3 rfl;have r4:=Za1 rd 4 rfl;have s0:=Za1 rd 5 rfl;have s1:=Za1 rd 6 rfl;have p7:=Za1 rd 7 rfl;have p8:=Za1 rd 8 rfl;have p9:=Za1 rd 9 rfl;have p10:=Za1 rd 10 rfl;have p11:=Za1 rd 11 rfl;have p12:=Za1 rd 12 rfl;have p13:=Za1 rd 13 rfl;have u6:=Za1 rd 14 rfl;have u7:=Za1 rd 15 rfl;have u8:=Za1 rd 16 rfl;have u9:=Za1 rd 17 rfl;have u11:=Za1 rd 18 rfl;have u12:=Za1 rd 19 rfl;have u13:=Za1 rd 20 rfl;have k5:=Za1 rd 21 rfl;have k6:=Za1 rd 22 rfl;have k7:=Za1 rd 23 rfl;have k8:=Za1 rd 24 rfl;have k9:=Za1 rd 25 rfl;have k11:=Za1 rd 26 rfl;have k12:=Za1 rd 27 rfl;have k13:=Za1 rd 28 rfl;clear rd;refine Zey (fun W:World=>Below w0.heap.size w0 W) 13 hm hS ?_;rw[hlen]
 show Left P l Q (fun W:World=>Below w0.heap.size w0 W) 13 13 (lwd l []) a w.drew
 have hw:=hS
 generalize w.drew=w at hw ⊢
 refine Zc1 r0 e0 q0 (fun W hW=>(h0 W hW).1) ?_;refine Zc1 r1 e1 q1 (fun W hW=>(h0 W hW).2.1) ?_;refine Zc1 r2 e2 q2 (fun W hW=>(h0 W hW).2.2.1) ?_;refine Zc1 r3 e3 q3 (fun W hW=>(h0 W hW).2.2.2.1) ?_;refine Zc1 r4 e4 q4 (fun W hW=>(h0 W hW).2.2.2.2) ?_;obtain⟨A,hA⟩:∃ A,A=((((a.put o0.dst v0).put o1.dst v1).put o2.dst v2).put o3.dst v3).put o4.dst v4:=⟨_,rfl⟩;rw[<- hA] at h5 h7 h11 hf ⊢;clear h0 hA;have c5p:∀ (x y:Value),((A.put (some t) x).put o5.dst v5).put (some t) y=(A.put (some t) y).put o5.dst v5:=fun x y=>by
  rw[Zgt A x v5 n5,Ych,<- Zgt A y v5 n5]
 have c9p:∀ (x y:Value),((((((A.put (some t) x).put o5.dst v5).put o6.dst v6).put o7.dst v7).put o8.dst v8).put o9.dst v9).put (some t) y=(((((A.put (some t) y).put o5.dst v5).put o6.dst v6).put o7.dst v7).put o8.dst v8).put o9.dst v9:=fun x y=>by
  rw[<- Zgt _ y v9 n9,<- Zgt _ y v8 n8,<- Zgt _ y v7 n7,<- Zgt _ y v6 n6,c5p]
 have fin:∀ (is:List Nat) (bx:Nat) (W:World),W.heap[bx]?=some (.cells #[.int .i64 0,.int .i64 0,.int .i64 0,.int .i64 0,.int .i64 0] 65 (0,0))->w0.heap.size<=bx->Below w0.heap.size w0 W ->
  rdA l is [11]=true->rdR l (is++[11]) 12=true->rdE l (is++[11]++[12])=true ->
  Left P l Q (fun W:World=>Below w0.heap.size w0 W) 13 2 (lwd l is) ((((((A.put (some t) (.pointer (some ⟨bx,0,none⟩))).put o5.dst v5).put o6.dst v6).put o7.dst v7).put o8.dst v8).put o9.dst v9) W:=fun is bx W hz hge hW i1 i2 i3=>by
  obtain⟨⟨T,s,x,j1,j2⟩,j3⟩:=h11 bx W _ hz rfl;refine Zhr i1 e11 q11 fun _=>Zmh j1 j2 ⟨Zlv hW hge N,?_⟩
  refine Zc1 i2 e12 q12 (fun W _=>j3 W) ?_;exact Zjn i3 (hf bx _ hge (Zlv hW hge N) (Zz3 hz N))
 refine Zsk s0 e5 e10 q5 q10 (fun _=>?_) (fun _=>?_)
 ·
  obtain⟨x,hx⟩:∃ x,A.put (some t) x=A:=⟨_,Zzx A t⟩;rw[<- hx];refine Zb7 (h5 x w).1 (c5 w hw) ?_;rintro W rfl;refine⟨hw,Zsk s1 e6 e10 q6 q10 (fun _=>?_) (fun _=>?_)⟩
  ·
   refine Zb7 (h5 x w).2 (c6 w hw) fun W hW=>?_
   have hbW:=hw.trans (hW.mono hw.size);refine⟨hbW,?_⟩;refine Zc1 p7 e7 q7 (fun W _=>(h7 x W _ rfl).1) ?_;refine Zc1 p8 e8 q8 (fun W _=>(h7 x W _ rfl).2.1) ?_;refine Zc1 p9 e9 q9 (fun W _=>(h7 x W _ rfl).2.2) ?_;have hbn:=hbW.trans ((Zaf W Zqz).mono hbW.size);refine Zhr p10 e10 q10 fun _=>Zca (h10 _ W) ⟨hbn,?_⟩
   rw[ht,c9p];exact fin _ _ _ (heap_alloc_new W _) hbW.size hbn p11 p12 p13
  ·
   have hbn:=hw.trans ((Zaf w Zqz).mono hw.size);refine Zca (h10 _ w) ⟨hbn,?_⟩;rw[ht,c5p];have hz:=heap_alloc_new w Zqz;have hge:w0.heap.size<=w.heap.size:=hw.size
   generalize w.alloc Zqz=u at hbn hz ⊢
   generalize w.heap.size=bx at hz hge ⊢
   refine Zhr u6 e6 q6 fun _=>Zb7 (h5 _ u).2 (c6 u hbn) fun W hW=>?_
   have hbW:=hbn.trans (hW.mono hbn.size);refine⟨hbW,?_⟩;refine Zc1 u7 e7 q7 (fun W _=>(h7 _ W _ rfl).1) ?_;refine Zc1 u8 e8 q8 (fun W _=>(h7 _ W _ rfl).2.1) ?_;refine Zc1 u9 e9 q9 (fun W _=>(h7 _ W _ rfl).2.2) ?_;exact fin _ bx W ((hW.block _ (Array.getElem?_eq_some_iff.1 hz).1).trans hz) hge hbW u11 u12 u13
 ·
  have hbn:=hw.trans ((Zaf w Zqz).mono hw.size);refine Zca (h10 _ w) ⟨hbn,?_⟩;rw[ht];have hz:=heap_alloc_new w Zqz;have hge:w0.heap.size<=w.heap.size:=hw.size
  generalize w.alloc Zqz=u at hbn hz ⊢
  generalize w.heap.size=bx at hz hge ⊢
  refine Zhr k5 e5 q5 fun _=>Zb7 (h5 _ u).1 (c5 u hbn) ?_
  rintro W rfl;refine⟨hbn,?_⟩;refine Zhr k6 e6 q6 fun _=>Zb7 (h5 _ u).2 (c6 u hbn) fun W hW=>?_
  have hbW:=hbn.trans (hW.mono hbn.size);refine⟨hbW,?_⟩;refine Zc1 k7 e7 q7 (fun W _=>(h7 _ W _ rfl).1) ?_;refine Zc1 k8 e8 q8 (fun W _=>(h7 _ W _ rfl).2.1) ?_;refine Zc1 k9 e9 q9 (fun W _=>(h7 _ W _ rfl).2.2) ?_;exact fin _ bx W ((hW.block _ (Array.getElem?_eq_some_iff.1 hz).1).trans hz) hge hbW k11 k12 k13
end
open Go.RowKit
theorem Zdn {o:Own} {w:World} {sb:Nat} {d:Zac} {s:Za0} (h:Zal o w sb d s) (hlt:Zai o w) (f:Nat) (hf:f<eMax) :
 Calls Tryz.prog 98 #[.pointer (some ⟨sb,0,none⟩),.int .i64 f] w fun x w'=>x=.returned (.bool (decide (enode f=0)||d.pool.tk (enode f)))/\Below w.heap.size w w':=by
 obtain⟨c0,c1,c2,c3,c4,f0⟩:=cells5 h.blk;have lsb:sb<w.heap.size:=Zab c0;have hz:(0:Int)<=f:=by omega
 have HC1:Hid (∀ W:World,Below w.heap.size w W->W.cell? ⟨sb,1,none⟩=some (.pointer (some ⟨s.pb,0,none⟩))):=Hd (fun W hb=>(hb.cell (p:=⟨sb,1,none⟩) lsb).trans c1);have HPA:Hid (∀ W:World,Below w.heap.size w W->Calls Tryz.prog 119 #[.pointer (some ⟨s.pb,0,none⟩),.int .i64 (enode f:Nat)] W fun x w'=>x=.returned (.tuple #[Zau (d.pool.has (enode f)),.bool (d.pool.tk (enode f))])/\Below W.heap.size W w') :=
  Hd (fun W hb=>Zcp o s.pb d.pool (enode f) W (h.pool.below hb hlt) (hlt.mono hb.size))
 have HN:=Hd (fun W=>Zbs f W hf);obtain⟨N,hN⟩:∃ N,N=d.pool.has (enode f):=⟨_,rfl⟩;obtain⟨B,hB⟩:∃ B,B=d.pool.tk (enode f):=⟨_,rfl⟩;obtain⟨k,hk⟩:∃ k,k=enode f:=⟨_,rfl⟩;rw[<- hN,<- hB,<- hk] at HPA;rw[<- hk] at HN;rw[<- hB,<- hk];obtain⟨z,hz0⟩:∃ z:Bool,z=decide (k=0):=⟨_,rfl⟩;have hk0:(((k:Nat):Int) == 0)=z:=by rw[hz0];exact Yc8 k
 rw[<- hz0];clear h hlt c0 c1 c2 c3 c4 f0 hN hB hk hf hz0
 go_enter Tryz.func98,Tryz.ntmps98
 go_upto_region 3 with fail;refine Zd9 (w0:=w) (N:=N) (v0:=.pointer (some ⟨sb,0,none⟩)) (v1:=.pointer (some ⟨sb,0,none⟩)) (v2:=.pointer (some ⟨sb,1,none⟩)) (v3:=.pointer (some ⟨s.pb,0,none⟩)) (v4:=.int .i64 f) (v5:=.int .i64 k) (v6:=.tuple #[Zau N,.bool B]) (v7:=.tuple #[Zau N,.bool B]) (v8:=Zau N) (v9:=.bool B) (v12:=.bool B) rfl (by kernel_rfl) (by kernel_rfl) ⟨⟨rfl,rfl,rfl,rfl,rfl,rfl,rfl⟩,rfl,rfl,rfl,rfl,rfl,rfl⟩ rfl (by decide) (Zah w 1) (fun W _=>HN.out W) (fun W hb=>HPA.out W hb) (fun W hb=>?_) (fun x W=>?_) (fun x W X hX=>?_) (fun a W=>?_) (fun bx W Y hz hY=>?_) (fun bx W3 hge hbf hxf=>?_)
 ·
  have hc1:=HC1.out W hb;simp only[Zag];refine⟨?_,?_,?_,?_,?_⟩<;>go_simp
 ·
  simp only[Zag];refine⟨?_,?_⟩<;>go_simp
 ·
  subst hX;simp only[Zag];unfold Zau;refine⟨?_,?_,?_⟩<;>go_simp
 ·
  go_simp
 ·
  subst hY;obtain⟨e0,e1,e2,e3,e4,fz⟩:=cells5 hz;simp only[Zag];unfold Zau;refine⟨⟨_,_,_,rfl,Zbt (k:=0) fz e0 e1 e2 e3 e4 _ _ _ _ _⟩,fun W=>?_⟩;go_simp
 simp only[Zag];unfold Zau;go_wp2_with fail;refine(HN.out _).mono ?_;rintro x w' ⟨rfl,rfl⟩;cases z
 all_goals go_wp2_with fail
 all_goals go_ret
 all_goals exact⟨rfl,hbf⟩
open Go.RowKit
theorem Zls {o:Own} {w:World} {sb:Nat} {d:Zac} {s:Za0} (h:Zal o w sb d s) (hlt:Zai o w) (f:Nat) (hf:f<eMax) (lv:Int) (hbig:d.level.length<1000000) :
 Calls Tryz.prog 145 #[.pointer (some ⟨sb,0,none⟩),.int .i64 f,.int .i64 lv] w fun x w'=>x=.returned (.bool (decide (enode f=0)||(d.pool.tk (enode f)&&decide (lv<d.levelOf (d.pool.has (enode f)).v))))/\Below w.heap.size w w':=by
 obtain⟨c0,c1,c2,c3,c4,f0⟩:=cells5 h.blk;have lsb:sb<w.heap.size:=Zab c0;have HC1:Hid (∀ W:World,Below w.heap.size w W->W.cell? ⟨sb,1,none⟩=some (.pointer (some ⟨s.pb,0,none⟩))):=Hd (fun W hb=>(hb.cell (p:=⟨sb,1,none⟩) lsb).trans c1);have HPA:Hid (∀ W:World,Below w.heap.size w W->Calls Tryz.prog 119 #[.pointer (some ⟨s.pb,0,none⟩),.int .i64 (enode f:Nat)] W fun x w'=>x=.returned (.tuple #[Zau (d.pool.has (enode f)),.bool (d.pool.tk (enode f))])/\Below W.heap.size W w') :=
  Hd (fun W hb=>Zcp o s.pb d.pool (enode f) W (h.pool.below hb hlt) (hlt.mono hb.size))
 have HLV:Hid (∀ W:World,Below w.heap.size w W->Calls Tryz.prog 69 #[.pointer (some ⟨sb,0,none⟩),.int .i64 ((d.pool.has (enode f)).v:Nat)] W fun x w'=>x=.returned (.int .i64 (d.levelOf (d.pool.has (enode f)).v))/\W=w') :=
  Hd (fun W hb=>Zew (h.below hlt hb) _ hbig)
 have HN:=Hd (fun W=>Zbs f W hf);obtain⟨N,hN⟩:∃ N,N=d.pool.has (enode f):=⟨_,rfl⟩;obtain⟨B,hB⟩:∃ B,B=d.pool.tk (enode f):=⟨_,rfl⟩;obtain⟨k,hk⟩:∃ k,k=enode f:=⟨_,rfl⟩;rw[<- hN] at HPA HLV;rw[<- hB,<- hk] at HPA;rw[<- hk] at HN;rw[<- hB,<- hN,<- hk];obtain⟨M,hM⟩:∃ M,M=d.levelOf N.v:=⟨_,rfl⟩;rw[<- hM] at HLV ⊢;obtain⟨z,hz0⟩:∃ z:Bool,z=decide (k=0):=⟨_,rfl⟩;have hk0:(((k:Nat):Int) == 0)=z:=by rw[hz0];exact Yc8 k
 rw[<- hz0];clear h hlt c0 c1 c2 c3 c4 f0 hN hB hk hf hz0 hM
 go_enter Tryz.func145,Tryz.ntmps145
 go_upto_region 1 with fail;refine Zd9 (w0:=w) (N:=N) (v0:=.pointer (some ⟨sb,0,none⟩)) (v1:=.pointer (some ⟨sb,0,none⟩)) (v2:=.pointer (some ⟨sb,1,none⟩)) (v3:=.pointer (some ⟨s.pb,0,none⟩)) (v4:=.int .i64 f) (v5:=.int .i64 k) (v6:=.tuple #[Zau N,.bool B]) (v7:=.tuple #[Zau N,.bool B]) (v8:=Zau N) (v9:=.bool B) (v12:=.bool B) rfl (by kernel_rfl) (by kernel_rfl) ⟨⟨rfl,rfl,rfl,rfl,rfl,rfl,rfl⟩,rfl,rfl,rfl,rfl,rfl,rfl⟩ rfl (by decide) (Zah w 1) (fun W _=>HN.out W) (fun W hb=>HPA.out W hb) (fun W hb=>?_) (fun x W=>?_) (fun x W X hX=>?_) (fun a W=>?_) (fun bx W Y hz hY=>?_) (fun bx W3 hge hbf hxf=>?_)
 ·
  have hc1:=HC1.out W hb;simp only[Zag];refine⟨?_,?_,?_,?_,?_⟩<;>go_simp
 ·
  simp only[Zag];refine⟨?_,?_⟩<;>go_simp
 ·
  subst hX;simp only[Zag];unfold Zau;refine⟨?_,?_,?_⟩<;>go_simp
 ·
  go_simp
 ·
  subst hY;obtain⟨e0,e1,e2,e3,e4,fz⟩:=cells5 hz;simp only[Zag];unfold Zau;refine⟨⟨_,_,_,rfl,Zbt (k:=0) fz e0 e1 e2 e3 e4 _ _ _ _ _⟩,fun W=>?_⟩;go_simp
 simp only[Zag];unfold Zau;obtain⟨y0,y1,y2,y3,y4,yz⟩:=cells5 hxf;go_wp2_with fail;refine(HN.out _).mono ?_;rintro x w' ⟨rfl,rfl⟩;cases z
 ·
  cases B
  ·
   go_wp2_with fail;go_ret;exact⟨rfl,hbf⟩
  ·
   go_wp2_with fail;refine(HLV.out _ hbf).mono ?_;rintro x w' ⟨rfl,rfl⟩;go_wp2_with fail;go_ret;exact⟨rfl,hbf⟩
 ·
  go_wp2_with fail;go_ret;exact⟨rfl,hbf⟩
open Go.RowKit
theorem Za8 {P:Program} {f:FuncId} {args:Array Value} {w:World} {n:Nat} {v:Value}
 (h:Calls P f args (w.drewN n) fun e w'=>e=.returned v/\w.drewN n=w'):Calls P f args (w.drewN n) fun e w''=>e=.returned v/\∃ m,w''=w.drewN m :=
 h.mono fun _ _ ⟨he,hm⟩=>⟨he,n,hm.symm⟩
theorem Zi9 {fn:Func} {t u v x:Tmp} (h:fn.results=#[.tmp t,.tmp u,.tmp v,.tmp x]) (tmps:Array Value) (P:Program) (w:World) :
 (results fn tmps).run P w=.ok (.tuple #[tmps.getD t undef,tmps.getD u undef,tmps.getD v undef,tmps.getD x undef]) w:=by
 simp[results,h]
theorem Zk4 {o:Own} {w:World} {sb:Nat} {d:Zac} {s:Za0} (h:Zal o w sb d s) (hlt:Zai o w) (f:Nat) (hf:f<eMax) (hlo:(d.pool.has (enode f)).lo<eMax) (hhi:(d.pool.has (enode f)).hi<eMax) :
 Calls Tryz.prog 124 #[.pointer (some ⟨sb,0,none⟩),.int .i64 f] w fun x w'=>x=.returned (if d.pool.tk (enode f)=true then .tuple #[.int .i64 (d.pool.has (enode f)).v,.int .i64 (eflip (d.pool.has (enode f)).lo (eneg f):Nat),.int .i64 (eflip (d.pool.has (enode f)).hi (eneg f):Nat),.bool true] else .tuple #[.int .i64 (-1),.int .i64 0,.int .i64 0,.bool false])/\Below w.heap.size w w':=by
 obtain⟨c0,c1,c2,c3,c4,f0⟩:=cells5 h.blk;have lsb:sb<w.heap.size:=Zab c0;have HC1:Hid (∀ W:World,Below w.heap.size w W->W.cell? ⟨sb,1,none⟩=some (.pointer (some ⟨s.pb,0,none⟩))):=Hd (fun W hb=>(hb.cell (p:=⟨sb,1,none⟩) lsb).trans c1);have HPA:Hid (∀ W:World,Below w.heap.size w W->Calls Tryz.prog 119 #[.pointer (some ⟨s.pb,0,none⟩),.int .i64 (enode f:Nat)] W fun x w'=>x=.returned (.tuple #[Zau (d.pool.has (enode f)),.bool (d.pool.tk (enode f))])/\Below W.heap.size W w') :=
  Hd (fun W hb=>Zcp o s.pb d.pool (enode f) W (h.pool.below hb hlt) (hlt.mono hb.size))
 have hz:(0:Int)<=f:=by omega
 have HG:=Hd (fun W=>Zf9 f W hf);have HFL:=Hd (fun W b=>Zb1 (d.pool.has (enode f)).lo b W hlo);have HFH:=Hd (fun W b=>Zb1 (d.pool.has (enode f)).hi b W hhi);have HN:=Hd (fun W=>Zbs f W hf);obtain⟨N,hN⟩:∃ N,N=d.pool.has (enode f):=⟨_,rfl⟩;obtain⟨B,hB⟩:∃ B,B=d.pool.tk (enode f):=⟨_,rfl⟩;obtain⟨k,hk⟩:∃ k,k=enode f:=⟨_,rfl⟩;rw[<- hN] at HPA HFL HFH;rw[<- hB,<- hk] at HPA;rw[<- hk] at HN;rw[<- hB,<- hN];obtain⟨g,hg⟩:∃ g:Bool,g=eneg f:=⟨_,rfl⟩;rw[<- hg] at HG ⊢;have HFL:=Hd (fun W=>HFL.out W g);have HFH:=Hd (fun W=>HFH.out W g);obtain⟨A,hA⟩:∃ A,A=eflip N.lo g:=⟨_,rfl⟩;obtain⟨C,hC⟩:∃ C,C=eflip N.hi g:=⟨_,rfl⟩;rw[<- hA] at HFL ⊢;rw[<- hC] at HFH ⊢;obtain⟨RV,hRV⟩:∃ RV:Value,RV=(if B=true then .tuple #[.int .i64 N.v,.int .i64 (A:Nat),.int .i64 (C:Nat),.bool true] else .tuple #[.int .i64 (-1),.int .i64 0,.int .i64 0,.bool false]):=⟨_,rfl⟩;rw[<- hRV];have HRV:=Hd hRV;clear h hlt c0 c1 c2 c3 c4 f0 hN hB hk hf hg hA hC hlo hhi hRV
 go_enter Tryz.func124,Tryz.ntmps124
 go_upto_region 3 with fail;refine Zd9 (w0:=w) (N:=N) (v0:=.pointer (some ⟨sb,0,none⟩)) (v1:=.pointer (some ⟨sb,0,none⟩)) (v2:=.pointer (some ⟨sb,1,none⟩)) (v3:=.pointer (some ⟨s.pb,0,none⟩)) (v4:=.int .i64 f) (v5:=.int .i64 k) (v6:=.tuple #[Zau N,.bool B]) (v7:=.tuple #[Zau N,.bool B]) (v8:=Zau N) (v9:=.bool B) (v12:=.bool B) rfl (by kernel_rfl) (by kernel_rfl) ⟨⟨rfl,rfl,rfl,rfl,rfl,rfl,rfl⟩,rfl,rfl,rfl,rfl,rfl,rfl⟩ rfl (by decide) (Zah w 1) (fun W _=>HN.out W) (fun W hb=>HPA.out W hb) (fun W hb=>?_) (fun x W=>?_) (fun x W X hX=>?_) (fun a W=>?_) (fun bx W Y hz hY=>?_) (fun bx W3 hge hbf hxf=>?_)
 ·
  have hc1:=HC1.out W hb;simp only[Zag];refine⟨?_,?_,?_,?_,?_⟩<;>go_simp
 ·
  simp only[Zag];refine⟨?_,?_⟩<;>go_simp
 ·
  subst hX;simp only[Zag];unfold Zau;refine⟨?_,?_,?_⟩<;>go_simp
 ·
  go_simp
 ·
  subst hY;obtain⟨e0,e1,e2,e3,e4,fz⟩:=cells5 hz;simp only[Zag];unfold Zau;refine⟨⟨_,_,_,rfl,Zbt (k:=0) fz e0 e1 e2 e3 e4 _ _ _ _ _⟩,fun W=>?_⟩;go_simp
 simp only[Zag];unfold Zau;obtain⟨y0,y1,y2,y3,y4,yz⟩:=cells5 hxf;clear HN HPA HC1;cases B
 ·
  go_wp2_with fail;refine bodyPost_ret (Zi9 rfl _ _ _) rfl ⟨?_,hbf⟩;rw[HRV.out];rfl
 ·
  go_upto_region 6 with fail
  go_quiet ((first|(with_reducible exact Za8 (HG.out _))|(with_reducible exact Za8 (HFL.out _))|(with_reducible exact Za8 (HFH.out _))))
  go_wp2_with fail;refine bodyPost_ret (Zi9 rfl _ _ _) rfl ⟨?_,Zbi hbf _⟩;rw[HRV.out];rfl
open Go.RowKit
def bnOf (r:RN):BN:=⟨r.v,r.lo,r.hi⟩
def Zaa (d:Zac):Nat->Option BN:=fun i=>(d.pool.get i).map bnOf
def Zas (d:Zac):Nat->Nat:=fun i=>d.counts.getD i 0
def Zac.cd (d:Zac) (cs:List Nat) (dd:Nat):Zac:={ d with counts:=cs,dead:=dd }
theorem Zav {d:Zac} {i:Nat} {b:BN} (h:Zaa d i=some b):d.pool.tk i=true/\d.pool.has i=d.pool.nd i/\bnOf (d.pool.has i)=b:=by
 unfold Zaa Zak.get at h
 by_cases e:d.pool.tk i=true
 ·
  rw[if_pos e] at h;refine⟨e,by unfold Zak.has;rw[if_pos e],?_⟩;unfold Zak.has;rw[if_pos e];simpa using h
 ·
  rw[if_neg e] at h;cases h
theorem Zga {d:Zac} {i:Nat} (h:Zaa d i=none):d.pool.tk i=false:=by
 unfold Zaa Zak.get at h
 by_cases e:d.pool.tk i=true
 ·
  rw[if_pos e] at h;cases h
 ·
  simpa using e
structure Acy (N:Nat->Option BN) (rk:Nat->Nat):Prop where
 none0:N 0=none
 okLo:∀ i b,N i=some b->okE N b.lo
 okHi:∀ i b,N i=some b->okE N b.hi
 ltLo:∀ i b c,N i=some b->N (b.lo/2)=some c->rk (b.lo/2)<rk i
 ltHi:∀ i b c,N i=some b->N (b.hi/2)=some c->rk (b.hi/2)<rk i
structure Zby (d:Zac) (ext:Nat->Int):Prop where
 cnt:Cnt d.pool.at_.length (Zaa d) (Zas d) ext
 dead:(d.dead:Int)=Zd2 d.pool.at_.length (Zaa d) (Zas d)
 has:∀ i b,Zaa d i=some b->i<d.counts.length
theorem Zh8 {f:Nat->Int} {B:Int}:∀ (k:Nat),(∀ i,i<k->f i<=B)->Zar k f<=k*B
 | 0,_=>by simp[Zar]
 | k+1,h=>by
   have ih:=Zh8 k (fun i hi=>h i (by omega));have h1:=h k (by omega);have:Zar (k+1) f=Zar k f+f k:=rfl;rw[this];have e:((k+1:Nat):Int)*B=k*B+B:=by rw[Int.natCast_add,Int.add_mul];simp
   omega
theorem Zza (N:Nat->Option BN) (c:Nat->Nat) (x p:Nat):from1 N c x p<=2:=by
 unfold from1 Zdl toE;split
 ·
  split
  ·
   split<;>split<;>omega
  ·
   omega
 ·
  omega
theorem Cnt.le {k:Nat} {N:Nat->Option BN} {c:Nat->Nat} {ext:Nat->Int} (h:Cnt k N c ext) {x:Nat} {b:BN} (hx:N x=some b):(c x:Int)<=ext x+2*k:=by
 have h1:=h.eq x b hx;have h2:=Zh8 (f:=from1 N c x) (B:=2) k (fun i _=>Zza N c x i);omega
theorem Zdr {d:Zac} {x v dd:Nat} (hx:x<d.counts.length):Zas (d.cd (d.counts.set x v) dd)=setC (Zas d) x v:=by
 funext i;unfold Zas setC Zac.cd;dsimp only
 by_cases e:i=x
 ·
  subst e;simp[List.getD,hx]
 ·
  simp only[List.getD,List.getElem?_set,if_neg (Ne.symm e),if_neg e]
section
variable {d:Zac} {ext:Nat->Int} {x:Nat} {b:BN}
theorem Zby.congr (h:Zby d ext) {ext':Nat->Int} (he:∀ x b,Zaa d x=some b->ext' x=ext x):Zby d ext':=⟨h.cnt.congr he,h.dead,h.has⟩
theorem Zby.moreLive (h:Zby d ext) (hx:Zaa d x=some b) (hc:0<Zas d x):Zby (d.cd (d.counts.set x (Zas d x+1)) d.dead) (bump ext x 1):=by
 have hl:=h.has x b hx;refine⟨?_,?_,fun i b' hb=>by simpa [Zac.cd] using h.has i b' hb⟩
 ·
  rw[Zdr hl];exact h.cnt.moreLive hc
 ·
  rw[Zdr hl]
  show (d.dead:Int)=Zd2 d.pool.at_.length (Zaa d) _
  rw[Zgm hx (h.cnt.lt x b hx),<- h.dead,if_neg (by omega),if_neg (by omega)];omega
theorem Zby.moreDead (h:Zby d ext) (hx:Zaa d x=some b) (hc:Zas d x=0):0<d.dead/\Zby (d.cd (d.counts.set x 1) (d.dead-1)) (addE (addE (bump ext x 1) b.lo (-1)) b.hi (-1)):=by
 have hl:=h.has x b hx;have hk:=h.cnt.lt x b hx;have h1:=Zgm (c:=Zas d) (v:=1) hx hk;rw[if_neg (by omega),if_pos hc,<- h.dead] at h1;have h2:0<=Zd2 d.pool.at_.length (Zaa d) (setC (Zas d) x 1):=Zeo _ fun i _=>Zi1 _ _ i
 refine⟨by omega,?_,?_,fun i b' hb=>by simpa [Zac.cd] using h.has i b' hb⟩
 ·
  rw[Zdr hl];exact h.cnt.moreDead hx hc
 ·
  rw[Zdr hl]
  show ((d.dead-1:Nat):Int)=Zd2 d.pool.at_.length (Zaa d) _
  rw[h1];omega
theorem Zby.lessLive (h:Zby d ext) (hx:Zaa d x=some b) (hc:1<Zas d x):Zby (d.cd (d.counts.set x (Zas d x-1)) d.dead) (bump ext x (-1)):=by
 have hl:=h.has x b hx;refine⟨?_,?_,fun i b' hb=>by simpa [Zac.cd] using h.has i b' hb⟩
 ·
  rw[Zdr hl];exact h.cnt.lessLive hc
 ·
  rw[Zdr hl]
  show (d.dead:Int)=Zd2 d.pool.at_.length (Zaa d) _
  rw[Zgm hx (h.cnt.lt x b hx),<- h.dead,if_neg (by omega),if_neg (by omega)];omega
theorem Zby.lessDies (h:Zby d ext) (hx:Zaa d x=some b) (hc:Zas d x=1):Zby (d.cd (d.counts.set x 0) (d.dead+1)) (addE (addE (bump ext x (-1)) b.lo 1) b.hi 1):=by
 have hl:=h.has x b hx;have hk:=h.cnt.lt x b hx;have h1:=Zgm (c:=Zas d) (v:=0) hx hk;rw[if_pos rfl,if_neg (by omega),<- h.dead] at h1;refine⟨?_,?_,fun i b' hb=>by simpa [Zac.cd] using h.has i b' hb⟩
 ·
  rw[Zdr hl];exact h.cnt.lessDies hx hc
 ·
  rw[Zdr hl]
  show ((d.dead+1:Nat):Int)=Zd2 d.pool.at_.length (Zaa d) _
  rw[h1];omega
end
def RCnt (r:Role):Prop:=r=.store\/r=.counts
section
variable {o:Own} {w:World} {sb:Nat} {d:Zac} {s:Za0}
theorem Zal.countsAt (h:Zal o w sb d s) {x:Nat} (hx:x<d.counts.length):∃ gc cap,s.vc=.slice (some ⟨gc,0,none⟩) d.counts.length cap/\o gc=some .counts/\gc≠sb/\d.counts.length<=cap/\cap<=maxLen/\(∀ k,w.frozen? ⟨gc,k,none⟩=false) /\
 (∀ k,k<d.counts.length->w.cell? ⟨gc,k,none⟩=some (.int .i64 (Zas d k:Nat))):=by
 obtain⟨gc,cap,hv,ho,h1,h2⟩:=h.counts.shape (by omega);have hr:=h.counts;rw[hv] at hr;refine⟨gc,cap,hv,ho,fun e=>(by subst e;rw[h.own] at ho;cases ho),h1,h2,hr.frozen,fun k hk=>?_⟩;rw[hr.cell k (by simpa using hk),List.getElem?_map,List.getElem?_eq_getElem hk];simp[nat64,Zas,List.getD,hk]
theorem Zal.keepBut (h:Zal o w sb d s) {d':Zac} {w':World} {g:Nat} (hg:o g=some .counts\/o g=some .store) (hk:∀ k,k≠g->w'.heap[k]?=w.heap[k]?)
 (hb:∃ dd cs,w'.heap[sb]?=some (.cells #[.pointer (some ⟨s.lb,0,none⟩),.pointer (some ⟨s.pb,0,none⟩),s.vt,s.vc,.int .i64 (dd:Nat)] 143 (0,0))/\RowR o w' .counts 3 1 s.vc cs.length (cs.map nat64)/\d'=d.cd cs dd):Zal o w' sb d' s:=by
 obtain⟨dd,cs,h1,h2,rfl⟩:=hb;have hne:∀ {b r},o b=some r->r ≠ .counts->r ≠ .store->b≠g:=fun hb hr hr' e=>by subst e;rcases hg with hg|hg<;>rw[hb] at hg<;>cases hg<;>contradiction
 exact⟨h.own,h.ownl,h1,(hk _ (hne h.ownl (by simp) (by simp))).trans h.lev,h.vars.keep (fun b hb=>hk _ (hne hb (by simp) (by simp))) (fun _ h=>h),h.level.keep (fun b hb=>hk _ (hne hb (by simp) (by simp))) (fun _ h=>h),
  h.pool.keep (fun b r hb hr=>hk _ (hne hb (by rcases hr with rfl|rfl|rfl|rfl<;>simp) (by rcases hr with rfl|rfl|rfl|rfl<;>simp))) (fun _ _ h=>h),
  h.tabs.keep (fun b hb=>hk _ (hne hb (by simp) (by simp))) (fun _ h=>h),
  fun v hv=>(h.tab v hv).keep (fun b r hb hr=>hk _ (hne hb (by rcases hr with rfl|rfl<;>simp) (by rcases hr with rfl|rfl<;>simp))) (fun _ _ h=>h),h2,h.len,h.tlen⟩
theorem Zal.setCount (h:Zal o w sb d s) {gc cap:Nat} (hv:s.vc=.slice (some ⟨gc,0,none⟩) d.counts.length cap) (hne:gc≠sb) (x v:Nat):Zal o (w.setCell ⟨gc,x,none⟩ (.int .i64 v)) sb (d.cd (d.counts.set x v) d.dead) s:=by
 have hr:=h.counts;rw[hv] at hr;refine h.keepBut (g:=gc) (.inl hr.owner) (fun k hk=>Zad hk _) ⟨d.dead,_,(Zad (Ne.symm hne) _).trans h.blk,?_,rfl⟩;have:=hr.stored x (.int .i64 v);rw[hv,List.length_set,List.map_set];exact this
theorem Zal.setDead (h:Zal o w sb d s) (hlt:Zai o w) (dd:Nat):Zal o (w.setCell ⟨sb,4,none⟩ (.int .i64 dd)) sb (d.cd d.counts dd) s:=by
 refine h.keepBut (g:=sb) (.inr h.own) (fun k hk=>Zad hk _) ⟨dd,d.counts,?_,?_,rfl⟩
 ·
  exact Zae (k:=4) h.blk _
 ·
  exact h.counts.keep (fun b hb=>Zad (fun e=>by have e':b=sb:=e;subst e';rw[h.own] at hb;cases hb) _) (fun _ h=>h)
end
open Go.RowKit
theorem Ze6 {fn:Func} (h:fn.results=#[]) (tmps:Array Value) (P:Program) (w:World):(results fn tmps).run P w=.ok (.tuple #[]) w:=by simp[results,h]
def Zbc (o:Own) (w:World) (sb:Nat) (d:Zac) (s:Za0) (rk:Nat->Nat) (m:Nat) (less:Bool) (ext':Nat->Int) (e:Ending) (w':World):Prop :=
 ∃ cs dd,e=.returned (.tuple #[])/\Zal o w' sb (d.cd cs dd) s/\Zby (d.cd cs dd) ext'/\cs.length=d.counts.length/\(∀ i,m<=rk i->cs.getD i 0=d.counts.getD i 0)/\(less=true->∀ i,cs.getD i 0<=d.counts.getD i 0)/\Chg RCnt o o w w'
structure Zom (o:Own) (w:World) (sb:Nat) (d:Zac) (s:Za0) (rk:Nat->Nat) (ext:Nat->Int) (f:Nat) (m:Nat):Prop where
 st:Zal o w sb d s
 lt:Zai o w
 acy:Acy (Zaa d) rk
 ok:okE (Zaa d) f
 live:Zby d ext
 top:∀ y b,Zaa d y=some b->ext y+toE f y<=1099511627776
 low:f/2=0\/rk (f/2)<m
structure Zoj (o:Own) (w:World) (sb:Nat) (d:Zac) (s:Za0) (rk:Nat->Nat) (ext:Nat->Int) (f:Nat) (m:Nat):Prop where
 st:Zal o w sb d s
 lt:Zai o w
 acy:Acy (Zaa d) rk
 ok:okE (Zaa d) f
 live:Zby d ext
 top:∀ y b,Zaa d y=some b->Zas d y<=2199023255552
 pos:∀ y b,Zaa d y=some b->0<=ext y-toE f y
 low:f/2=0\/rk (f/2)<m
theorem Zal.tk_lt {o:Own} {w:World} {sb:Nat} {d:Zac} {s:Za0} (h:Zal o w sb d s) {i:Nat} {b:BN} (hi:Zaa d i=some b):0<i/\i<d.pool.at_.length/\d.pool.at_.length<=1048577:=by
 have h1:=h.pool.tk_lt (Zav hi).1;have h2:=h.pool.top;have h3:=h.pool.room;omega
theorem Zal.edge_lt {o:Own} {w:World} {sb:Nat} {d:Zac} {s:Za0} (h:Zal o w sb d s) {f:Nat} (hf:okE (Zaa d) f):f<2097156:=by
 rcases hf with h0|⟨b,hb⟩
 ·
  omega
 ·
  have:=h.tk_lt hb;omega
theorem Zoo {ext:Nat->Int} {f:Nat}:addE ext f 1=bump ext (f/2) 1:=by
 funext y;unfold addE bump toE
 by_cases e:f/2=y
 ·
  subst e;simp
 ·
  simp[e,Ne.symm e]
theorem Zlu {ext:Nat->Int} {f:Nat}:addE ext f (-1)=bump ext (f/2) (-1):=by
 funext y;unfold addE bump toE
 by_cases e:f/2=y
 ·
  subst e;simp
 ·
  simp[e,Ne.symm e]
theorem Zxe {o:Own} {w:World} {sb:Nat} {d:Zac} {s:Za0} {rk:Nat->Nat} {ext:Nat->Int} {f m:Nat} (h:Zom o w sb d s rk ext f m) {b:BN} (hx:Zaa d (enode f)=some b) (hc:0<Zas d (enode f)) :
 Calls Tryz.prog 122 #[.pointer (some ⟨sb,0,none⟩),.int .i64 f] w (Zbc o w sb d s rk m false (addE ext f 1)):=by
 have hfl:=h.st.edge_lt h.ok;have hf:f<eMax:=by unfold eMax;omega
 have hxl:=h.live.has _ _ hx;obtain⟨gc,cap,hv,hgo,hne,hlc,hcm,hfz,hcell⟩:=h.st.countsAt hxl;obtain⟨c0,c1,c2,c3,c4,f0⟩:=cells5 h.st.blk;rw[hv] at c3;have hcx:=hcell _ hxl;have hfx:=hfz (enode f);have hcb:=h.live.cnt.le hx;have htop:=h.top _ _ hx;rw[show toE f (enode f)=1 from Ziv f] at htop;have htk':=h.st.tk_lt hx;have htk:=h.st.tk_lt hx;have HLOW:Hid (∀ i,m<=rk i->(d.counts.set (enode f) (Zas d (enode f)+1)).getD i 0=d.counts.getD i 0):=fun i hi=>by
  have:enode f≠i:=by
   rintro rfl;rcases h.low with h0|h0
   ·
    have:enode f=0:=h0;omega
   ·
    have e:f/2=enode f:=rfl;rw[e] at h0;omega
  simp only[List.getD,List.getElem?_set,if_neg this]
 have HLE:Hid (false=true->∀ i,(d.counts.set (enode f) (Zas d (enode f)+1)).getD i 0<=d.counts.getD i 0):=fun e=>(by cases e)
 have HPOST:Hid (Zal o (w.setCell ⟨gc,enode f,none⟩ (.int .i64 ((Zas d (enode f)+1:Nat):Int))) sb (d.cd (d.counts.set (enode f) (Zas d (enode f)+1)) d.dead) s/\Zby (d.cd (d.counts.set (enode f) (Zas d (enode f)+1)) d.dead) (addE ext f 1)) :=
  ⟨h.st.setCount hv hne _ _,by rw[Zoo];exact h.live.moreLive hx hc⟩
 have HCHG:=Hd ((Chg.refl RCnt o w).setCell (p:=⟨gc,enode f,none⟩) hgo (.inr rfl) (.int .i64 ((Zas d (enode f)+1:Nat):Int)));rw[show ((Zas d (enode f)+1:Nat):Int)=(Zas d (enode f):Nat)+1 from by omega] at HPOST HCHG;have hid0:((enode f:Nat):Int)≠0:=by have:=htk.1;omega
 have HN:=Hd (fun W=>Zbs f W hf);have hne':sb≠gc:=fun e=>hne e.symm
 have hxl':((enode f:Nat):Int)<d.counts.length:=by omega
 obtain⟨k,hk⟩:∃ k,k=enode f:=⟨_,rfl⟩;obtain⟨c,hcc⟩:∃ c,c=Zas d (enode f):=⟨_,rfl⟩;have hcb1:c<=2199023255552:=by omega
 have hc1:0<c:=by omega
 rw[<- hcc] at hcx HPOST HCHG HLOW HLE;rw[<- hk] at hcx hfx HPOST HCHG hid0 HN hxl' HLOW HLE;have hk0:((k:Int) == 0)=false:=by simpa using hid0
 have hk1:0<k:=by omega
 have hcm':d.counts.length<=9223372036854775807:=by unfold maxLen at hcm;omega
 have hc3:(1:Int)<(c:Int)+1:=by omega
 clear h hx hc hv hgo hlc hcm hfz hcell hk hcc htop htk hid0 hxl hfl hf
 go_enter Tryz.func122,Tryz.ntmps122
 go_wp2_with fail;refine(HN.out _).mono ?_;rintro x w' ⟨rfl,rfl⟩;go_wp2_with fail;refine bodyPost_ret (Ze6 rfl _ _ _) rfl ⟨_,_,rfl,HPOST.out.1,HPOST.out.2,by simp,HLOW.out,(fun e=>by first|exact absurd e (by decide)|exact HLE.out (by simp)),HCHG.out⟩
theorem Zxf {o:Own} {w:World} {sb:Nat} {d:Zac} {s:Za0} {rk:Nat->Nat} {ext:Nat->Int} {f m:Nat} (h:Zom o w sb d s rk ext f m) (hx:enode f=0) :
 Calls Tryz.prog 122 #[.pointer (some ⟨sb,0,none⟩),.int .i64 f] w (Zbc o w sb d s rk m false (addE ext f 1)):=by
 have hf:f<eMax:=by have:=h.st.edge_lt h.ok;unfold eMax;omega
 have HPOST:Hid (Zbc o w sb d s rk m false (addE ext f 1) (.returned (.tuple #[])) w) :=
  ⟨d.counts,d.dead,rfl,h.st,h.live.congr (fun y b hb=>by
   have:y≠0:=by rintro rfl;rw[h.acy.none0] at hb;cases hb
   have e:f/2=0:=hx;simp[addE,toE,e,Ne.symm this]),rfl,fun _ _=>rfl,fun _ _=>Nat.le_refl _,Chg.refl _ _ _⟩
 have HN:=Hd (fun W=>Zbs f W hf);rw[hx] at HN;clear h hx hf
 go_enter Tryz.func122,Tryz.ntmps122
 go_wp2_with fail;refine(HN.out _).mono ?_;rintro x w' ⟨rfl,rfl⟩;go_wp2_with fail;refine bodyPost_ret (Ze6 rfl _ _ _) rfl HPOST.out
theorem Zxd {o:Own} {w:World} {sb:Nat} {d:Zac} {s:Za0} {rk:Nat->Nat} {ext:Nat->Int} {f m:Nat} (h:Zom o w sb d s rk ext f (m+1)) {b:BN} (hx:Zaa d (enode f)=some b) (hc:Zas d (enode f)=0)
 (ih:∀ w d ext f,Zom o w sb d s rk ext f m->Calls Tryz.prog 122 #[.pointer (some ⟨sb,0,none⟩),.int .i64 f] w (Zbc o w sb d s rk m false (addE ext f 1))) :
 Calls Tryz.prog 122 #[.pointer (some ⟨sb,0,none⟩),.int .i64 f] w (Zbc o w sb d s rk (m+1) false (addE ext f 1)):=by
 have hfl:=h.st.edge_lt h.ok;have hf:f<eMax:=by unfold eMax;omega
 have hxl:=h.live.has _ _ hx;obtain⟨gc,cap,hv,hgo,hne,hlc,hcm,hfz,hcell⟩:=h.st.countsAt hxl;obtain⟨c0,c1,c2,c3,c4,f0⟩:=cells5 h.st.blk;rw[hv] at c3;have hcx:=hcell _ hxl;have hfx:=hfz (enode f);have htk:=h.st.tk_lt hx;obtain⟨hdp,hlv⟩:=h.live.moreDead hx hc;have hdb:d.dead<=1048577:=by
  have h1:=h.live.dead;have h2:=Zh8 (f:=dead1 (Zaa d) (Zas d)) (B:=1) d.pool.at_.length (fun i _=>by unfold dead1;split<;>first|omega|(split<;>omega));have h3:Zd2 d.pool.at_.length (Zaa d) (Zas d)=Zar d.pool.at_.length (dead1 (Zaa d) (Zas d)):=rfl;omega
 have HLT:=Hd h.lt;have HLOW:∀ i,m+1<=rk i->(d.counts.set (enode f) 1).getD i 0=d.counts.getD i 0:=fun i hi=>by
  have:enode f≠i:=by
   rintro rfl;rcases h.low with h0|h0
   ·
    have:enode f=0:=h0;omega
   ·
    have e:f/2=enode f:=rfl;rw[e] at h0;omega
  simp only[List.getD,List.getElem?_set,if_neg this]
 have HLE:false=true->∀ i,(d.counts.set (enode f) 1).getD i 0<=d.counts.getD i 0:=fun e=>(by cases e)
 have hrk:rk (enode f)<=m:=by
  rcases h.low with h0|h0
  ·
   have:enode f=0:=h0;omega
  ·
   have e:f/2=enode f:=rfl;rw[e] at h0;omega
 have hlow:∀ e,(okE (Zaa d) e)->(∀ c,Zaa d (e/2)=some c->rk (e/2)<rk (enode f))->e/2=0\/rk (e/2)<m:=fun e ho hr=>by
  rcases ho with h0|⟨c,hc⟩
  ·
   exact .inl h0
  ·
   exact .inr (by have:=hr c hc;omega)
 have st1:Zal o (w.setCell ⟨gc,enode f,none⟩ (.int .i64 ((1:Nat):Int))) sb (d.cd (d.counts.set (enode f) 1) d.dead) s:=h.st.setCount hv hne _ _;have hlt1:Zai o (w.setCell ⟨gc,enode f,none⟩ (.int .i64 ((1:Nat):Int))):=h.lt.mono (by simp[World.setCell]);have st2:Zal o ((w.setCell ⟨gc,enode f,none⟩ (.int .i64 ((1:Nat):Int))).setCell ⟨sb,4,none⟩ (.int .i64 ((d.dead-1:Nat):Int))) sb (d.cd (d.counts.set (enode f) 1) (d.dead-1)) s:=st1.setDead hlt1 _;have HCHG:=Hd (((Chg.refl RCnt o w).setCell (p:=⟨gc,enode f,none⟩) hgo (.inr rfl) (.int .i64 ((1:Nat):Int))).setCell (p:=⟨sb,4,none⟩) h.st.own (.inl rfl) (.int .i64 ((d.dead-1:Nat):Int)));have hlt2:Zai o ((w.setCell ⟨gc,enode f,none⟩ (.int .i64 ((1:Nat):Int))).setCell ⟨sb,4,none⟩ (.int .i64 ((d.dead-1:Nat):Int))):=hlt1.mono (by simp[World.setCell]);have hpa:=Zav hx;have hbN:∃ N,N=d.pool.has (enode f)/\N.lo=b.lo/\N.hi=b.hi:=⟨_,rfl,by rw[<- hpa.2.2];rfl,by rw[<- hpa.2.2];rfl⟩;have hex:addE (addE (addE (addE (bump ext (enode f) 1) b.lo (-1)) b.hi (-1)) b.lo 1) b.hi 1=addE ext f 1:=by
  funext y;have h1:=congrFun (Zoo (ext:=ext) (f:=f)) y;have h2:enode f=f/2:=rfl;rw[h2,h1];simp only[addE];omega
 obtain⟨W2,hW2⟩:∃ W,W=(w.setCell ⟨gc,enode f,none⟩ (.int .i64 ((1:Nat):Int))).setCell ⟨sb,4,none⟩ (.int .i64 ((d.dead-1:Nat):Int)):=⟨_,rfl⟩;rw[<- hW2] at st2 HCHG hlt2;have HLT2:=Hd hlt2;have HPA:Hid (∀ W:World,Below W2.heap.size W2 W->Calls Tryz.prog 119 #[.pointer (some ⟨s.pb,0,none⟩),.int .i64 (enode f:Nat)] W fun x w'=>x=.returned (.tuple #[Zau (d.pool.has (enode f)),.bool (d.pool.tk (enode f))])/\Below W.heap.size W w') :=
  Hd (fun W hb=>Zcp o s.pb d.pool (enode f) W (st2.pool.below hb hlt2) (hlt2.mono hb.size))
 have HC1:Hid (∀ W:World,Below W2.heap.size W2 W->W.cell? ⟨sb,1,none⟩=some (.pointer (some ⟨s.pb,0,none⟩))):=Hd (fun W hb=>(cells5 (st2.below hlt2 hb).blk).2.1);have HLO:Hid (∀ W:World,Below W2.heap.size W2 W->Calls Tryz.prog 122 #[.pointer (some ⟨sb,0,none⟩),.int .i64 (b.lo:Nat)] W (Zbc o W sb (d.cd (d.counts.set (enode f) 1) (d.dead-1)) s rk m false (addE (addE (addE (bump ext (enode f) 1) b.lo (-1)) b.hi (-1)) b.lo 1))) :=
  Hd (fun W hb=>ih W _ _ b.lo ⟨st2.below hlt2 hb,hlt2.mono hb.size,h.acy,h.acy.okLo _ _ hx,hlv,fun y q hq=>by
   have h1:=h.top y q hq;have h2:toE f y=if enode f=y then 1 else 0:=rfl
   have h3:=Zbq b.lo y;have h4:=Zbq b.hi y;simp only[addE,bump]
   by_cases e:y=enode f
   ·
    rw[if_pos e.symm] at h2;rw[if_pos e];omega
   ·
    rw[if_neg (Ne.symm e)] at h2;rw[if_neg e];omega,hlow b.lo (h.acy.okLo _ _ hx) (fun c hc=>h.acy.ltLo _ _ c hx hc)⟩)
 have HHI:Hid (∀ (W:World) (cs:List Nat) (dd:Nat),Zal o W sb ((d.cd (d.counts.set (enode f) 1) (d.dead-1)).cd cs dd) s->Zby ((d.cd (d.counts.set (enode f) 1) (d.dead-1)).cd cs dd) (addE (addE (addE (bump ext (enode f) 1) b.lo (-1)) b.hi (-1)) b.lo 1)->(false=true->∀ i,cs.getD i 0<=(d.counts.set (enode f) 1).getD i 0)->Chg RCnt o o w W ->
  Calls Tryz.prog 122 #[.pointer (some ⟨sb,0,none⟩),.int .i64 (b.hi:Nat)] W (Zbc o W sb ((d.cd (d.counts.set (enode f) 1) (d.dead-1)).cd cs dd) s rk m false (addE ext f 1))) :=
  Hd (fun W cs dd hs hl hle hch=>by
   rw[<- hex]
   exact ih W _ _ b.hi ⟨hs,HLT.out.mono hch.size,h.acy,h.acy.okHi _ _ hx,hl,fun y q hq=>by
    have h1:=h.top y q hq;have h2:toE f y=if enode f=y then 1 else 0:=rfl
    have h3:=Zbq b.lo y;have h4:=Zbq b.hi y;simp only[addE,bump]
    by_cases e:y=enode f
    ·
     rw[if_pos e.symm] at h2;rw[if_pos e];omega
    ·
     rw[if_neg (Ne.symm e)] at h2;rw[if_neg e];omega,hlow b.hi (h.acy.okHi _ _ hx) (fun c hc=>h.acy.ltHi _ _ c hx hc)⟩)
 have HEND:Hid (∀ (W:World) (cs:List Nat) (dd:Nat),Zal o W sb (d.cd cs dd) s->Zby (d.cd cs dd) (addE ext f 1)->cs.length=(d.counts.set (enode f) 1).length->(∀ i,m+1<=rk i->cs.getD i 0=(d.counts.set (enode f) 1).getD i 0)->(false=true->∀ i,cs.getD i 0<=(d.counts.set (enode f) 1).getD i 0)->Chg RCnt o o w W ->
  Zbc o w sb d s rk (m+1) false (addE ext f 1) (.returned (.tuple #[])) W) :=
  fun W cs dd hs hl hlen hlw hle hch=>⟨cs,dd,rfl,hs,hl,by rw[hlen];simp,fun i hi=>(hlw i hi).trans (HLOW i hi),fun e i=>Nat.le_trans (hle e i) (HLE e i),hch⟩
 have HWE:Hid (W2=(w.setCell ⟨gc,enode f,none⟩ (.int .i64 1)).setCell ⟨sb,4,none⟩ (.int .i64 ((d.dead:Int)-1))):=by
  show _=_
  rw[hW2,show ((d.dead-1:Nat):Int)=(d.dead:Int)-1 from by omega];rfl
 have hid0:((enode f:Nat):Int)≠0:=by have:=htk.1;omega
 have HN:=Hd (fun W=>Zbs f W hf);have hne':sb≠gc:=fun e=>hne e.symm
 have hxl':((enode f:Nat):Int)<d.counts.length:=by omega
 obtain⟨N,hN,hNlo,hNhi⟩:=hbN;rw[<- hN] at HPA;rw[<- hNlo,<- hNhi] at HLO HHI;obtain⟨B,hB⟩:∃ B,B=d.pool.tk (enode f):=⟨_,rfl⟩;rw[<- hB] at HPA;rw[hc] at hcx;obtain⟨k,hk⟩:∃ k,k=enode f:=⟨_,rfl⟩;rw[<- hk] at hcx hfx HPA hid0 HN hxl' HWE;have hk0:((k:Int) == 0)=false:=by simpa using hid0
 have hk1:0<k:=by omega
 have hcm':d.counts.length<=9223372036854775807:=by unfold maxLen at hcm;omega
 obtain⟨dn,hdn⟩:∃ n,n=d.dead:=⟨_,rfl⟩;rw[<- hdn] at c4 hdb HWE hdp;clear ih h hx hc hv hgo hlc hcm hfz hcell htk hid0 hxl hfl hf hlv st1 st2 hlt1 hlt2 HLOW HLE hrk hlow hW2 hex hN hNlo hNhi hB hdn hpa hk
 go_enter Tryz.func122,Tryz.ntmps122
 go_wp2_with fail;refine(HN.out _).mono ?_;rintro x w' ⟨rfl,rfl⟩;go_wp2_with fail;rw[<- HWE.out];refine(HPA.out W2 (Below.refl _ _)).mono ?_;rintro x v2 ⟨rfl,hb2⟩;unfold Zau;clear HWE c0 c1 c2 c3 c4 f0 hcx hfx HN hne hne' hxl' hk0 hk1 hcm' hdb hdp;go_wp2_with fail;obtain⟨W3,hW3⟩:∃ W,W=v2.alloc (.cells #[.int .i64 N.id,.int .i64 N.v,.int .i64 N.lo,.int .i64 N.hi,.int .i64 N.refs] 65):=⟨_,rfl⟩;obtain⟨bx,hbx⟩:∃ bx,bx=v2.heap.size:=⟨_,rfl⟩;have hge:W2.heap.size<=bx:=by rw[hbx];exact hb2.size
 have hbf:Below W2.heap.size W2 W3:=by rw[hW3];exact hb2.alloc hb2.size _
 have hxf:W3.heap[bx]?=some (.cells #[.int .i64 N.id,.int .i64 N.v,.int .i64 N.lo,.int .i64 N.hi,.int .i64 N.refs] 65 (0,0)):=by rw[hW3,hbx];exact heap_alloc_new v2 _
 rw[<- hW3];rw[<- hbx];clear hW3 hbx hb2 HPA HC1;refine(HLO.out _ hbf).mono ?_;rintro x w1 ⟨cs1,dd1,rfl,st1,lv1,len1,low1,le1,chg1⟩;have hxg:=(chg1.alien (Array.getElem?_eq_some_iff.1 hxf).1 (HLT2.out.none hge)).trans hxf;obtain⟨z0,z1,z2,z3,z4,zz⟩:=cells5 hxg;have HS1:=Hd st1;have HL1:=Hd lv1;have HE1:=Hd len1;have HW1:=Hd low1;have HI1:=Hd le1;have HC3:=Hd ((HCHG.out.trans (Chg.of_below hbf RCnt o)).trans chg1);clear st1 lv1 len1 low1 le1 chg1 hxf hxg hbf;go_wp2_with fail;refine(HHI.out w1 cs1 dd1 HS1.out HL1.out (fun e=>by first|exact absurd e (by decide)|exact HI1.out (by simp)) HC3.out).mono ?_;rintro x w2 ⟨cs2,dd2,rfl,st2,lv2,len2,low2,le2,chg2⟩;have HFIN:=Hd (HEND.out w2 cs2 dd2 st2 lv2 (len2.trans HE1.out) (fun i hi=>(low2 i (by omega)).trans (HW1.out i (by omega))) (fun e i=>by first|exact absurd e (by decide)|exact Nat.le_trans (le2 (by simp) i) (HI1.out (by simp) i)) (HC3.out.trans chg2));clear st2 lv2 len2 low2 le2 chg2;go_wp2_with fail;refine bodyPost_end (Ze6 rfl _ _ _) rfl HFIN.out
theorem Zfl (o:Own) (sb:Nat) (s:Za0) (rk:Nat->Nat):∀ (m:Nat) (w:World) (d:Zac) (ext:Nat->Int) (f:Nat),Zom o w sb d s rk ext f m ->
 Calls Tryz.prog 122 #[.pointer (some ⟨sb,0,none⟩),.int .i64 f] w (Zbc o w sb d s rk m false (addE ext f 1))
 | m,w,d,ext,f,h=>by
   by_cases h0:enode f=0
   ·
    exact Zxf h h0
   ·
    obtain⟨b,hx⟩:∃ b,Zaa d (enode f)=some b:=h.ok.resolve_left h0
    by_cases hc:0<Zas d (enode f)
    ·
     exact Zxe h hx hc
    ·
     cases m with
     | zero=>exact absurd (h.low.resolve_left h0) (by omega)
     | succ m=>exact Zxd h hx (by omega) (Zfl o sb s rk m)
open Go.RowKit
theorem Zw1 {o:Own} {w:World} {sb:Nat} {d:Zac} {s:Za0} {rk:Nat->Nat} {ext:Nat->Int} {f m:Nat} (h:Zoj o w sb d s rk ext f m) {b:BN} (hx:Zaa d (enode f)=some b) (hc:1<Zas d (enode f)) :
 Calls Tryz.prog 121 #[.pointer (some ⟨sb,0,none⟩),.int .i64 f] w (Zbc o w sb d s rk m true (addE ext f (-1))):=by
 have hfl:=h.st.edge_lt h.ok;have hf:f<eMax:=by unfold eMax;omega
 have hxl:=h.live.has _ _ hx;obtain⟨gc,cap,hv,hgo,hne,hlc,hcm,hfz,hcell⟩:=h.st.countsAt hxl;obtain⟨c0,c1,c2,c3,c4,f0⟩:=cells5 h.st.blk;rw[hv] at c3;have hcx:=hcell _ hxl;have hfx:=hfz (enode f);have htop:=h.top (enode f) _ hx;have htk:=h.st.tk_lt hx;have HLOW:Hid (∀ i,m<=rk i->(d.counts.set (enode f) (Zas d (enode f)-1)).getD i 0=d.counts.getD i 0):=fun i hi=>by
  have:enode f≠i:=by
   rintro rfl;rcases h.low with h0|h0
   ·
    have:enode f=0:=h0;omega
   ·
    have e:f/2=enode f:=rfl;rw[e] at h0;omega
  simp only[List.getD,List.getElem?_set,if_neg this]
 have HLE:Hid (true=true->∀ i,(d.counts.set (enode f) (Zas d (enode f)-1)).getD i 0<=d.counts.getD i 0):=fun _ i=>by
  by_cases e:enode f=i
  ·
   subst e;simp only[List.getD,List.getElem?_set];simp[hxl,Zas,List.getD]
  ·
   simp only[List.getD,List.getElem?_set,if_neg e];omega
 have HPOST:Hid (Zal o (w.setCell ⟨gc,enode f,none⟩ (.int .i64 ((Zas d (enode f)-1:Nat):Int))) sb (d.cd (d.counts.set (enode f) (Zas d (enode f)-1)) d.dead) s/\Zby (d.cd (d.counts.set (enode f) (Zas d (enode f)-1)) d.dead) (addE ext f (-1))) :=
  ⟨h.st.setCount hv hne _ _,by rw[Zlu];exact h.live.lessLive hx hc⟩
 have HCHG:=Hd ((Chg.refl RCnt o w).setCell (p:=⟨gc,enode f,none⟩) hgo (.inr rfl) (.int .i64 ((Zas d (enode f)-1:Nat):Int)));rw[show ((Zas d (enode f)-1:Nat):Int)=(Zas d (enode f):Nat)-1 from by omega] at HPOST HCHG;have hid0:((enode f:Nat):Int)≠0:=by have:=htk.1;omega
 have HN:=Hd (fun W=>Zbs f W hf);have hne':sb≠gc:=fun e=>hne e.symm
 have hxl':((enode f:Nat):Int)<d.counts.length:=by omega
 obtain⟨k,hk⟩:∃ k,k=enode f:=⟨_,rfl⟩;obtain⟨c,hcc⟩:∃ c,c=Zas d (enode f):=⟨_,rfl⟩;have hcb1:c<=2199023255552:=by omega
 have hc1:1<c:=by omega
 rw[<- hcc] at hcx HPOST HCHG HLOW HLE;rw[<- hk] at hcx hfx HPOST HCHG hid0 HN hxl' HLOW HLE;have hk0:((k:Int) == 0)=false:=by simpa using hid0
 have hk1:0<k:=by omega
 have hcm':d.counts.length<=9223372036854775807:=by unfold maxLen at hcm;omega
 have hc3:(1:Int)<(c:Int):=by omega
 clear h hx hc hv hgo hlc hcm hfz hcell hk hcc htop htk hid0 hxl hfl hf
 go_enter Tryz.func121,Tryz.ntmps121
 go_wp2_with fail;refine(HN.out _).mono ?_;rintro x w' ⟨rfl,rfl⟩;go_wp2_with fail;refine bodyPost_ret (Ze6 rfl _ _ _) rfl ⟨_,_,rfl,HPOST.out.1,HPOST.out.2,by simp,HLOW.out,(fun e=>by first|exact absurd e (by decide)|exact HLE.out (by simp)),HCHG.out⟩
theorem Zw2 {o:Own} {w:World} {sb:Nat} {d:Zac} {s:Za0} {rk:Nat->Nat} {ext:Nat->Int} {f m:Nat} (h:Zoj o w sb d s rk ext f m) (hx:enode f=0) :
 Calls Tryz.prog 121 #[.pointer (some ⟨sb,0,none⟩),.int .i64 f] w (Zbc o w sb d s rk m true (addE ext f (-1))):=by
 have hf:f<eMax:=by have:=h.st.edge_lt h.ok;unfold eMax;omega
 have HPOST:Hid (Zbc o w sb d s rk m true (addE ext f (-1)) (.returned (.tuple #[])) w) :=
  ⟨d.counts,d.dead,rfl,h.st,h.live.congr (fun y b hb=>by
   have:y≠0:=by rintro rfl;rw[h.acy.none0] at hb;cases hb
   have e:f/2=0:=hx;simp[addE,toE,e,Ne.symm this]),rfl,fun _ _=>rfl,fun _ _=>Nat.le_refl _,Chg.refl _ _ _⟩
 have HN:=Hd (fun W=>Zbs f W hf);rw[hx] at HN;clear h hx hf
 go_enter Tryz.func121,Tryz.ntmps121
 go_wp2_with fail;refine(HN.out _).mono ?_;rintro x w' ⟨rfl,rfl⟩;go_wp2_with fail;refine bodyPost_ret (Ze6 rfl _ _ _) rfl HPOST.out
theorem Zw0 {o:Own} {w:World} {sb:Nat} {d:Zac} {s:Za0} {rk:Nat->Nat} {ext:Nat->Int} {f m:Nat} (h:Zoj o w sb d s rk ext f (m+1)) {b:BN} (hx:Zaa d (enode f)=some b) (hc:Zas d (enode f)=1)
 (ih:∀ w d ext f,Zoj o w sb d s rk ext f m->Calls Tryz.prog 121 #[.pointer (some ⟨sb,0,none⟩),.int .i64 f] w (Zbc o w sb d s rk m true (addE ext f (-1)))) :
 Calls Tryz.prog 121 #[.pointer (some ⟨sb,0,none⟩),.int .i64 f] w (Zbc o w sb d s rk (m+1) true (addE ext f (-1))):=by
 have hfl:=h.st.edge_lt h.ok;have hf:f<eMax:=by unfold eMax;omega
 have hxl:=h.live.has _ _ hx;obtain⟨gc,cap,hv,hgo,hne,hlc,hcm,hfz,hcell⟩:=h.st.countsAt hxl;obtain⟨c0,c1,c2,c3,c4,f0⟩:=cells5 h.st.blk;rw[hv] at c3;have hcx:=hcell _ hxl;have hfx:=hfz (enode f);have htk:=h.st.tk_lt hx;have hlv:=h.live.lessDies hx hc;have hdb:d.dead<=1048577:=by
  have h1:=h.live.dead;have h2:=Zh8 (f:=dead1 (Zaa d) (Zas d)) (B:=1) d.pool.at_.length (fun i _=>by unfold dead1;split<;>first|omega|(split<;>omega));have h3:Zd2 d.pool.at_.length (Zaa d) (Zas d)=Zar d.pool.at_.length (dead1 (Zaa d) (Zas d)):=rfl;omega
 have HLT:=Hd h.lt;have HLOW:∀ i,m+1<=rk i->(d.counts.set (enode f) 0).getD i 0=d.counts.getD i 0:=fun i hi=>by
  have:enode f≠i:=by
   rintro rfl;rcases h.low with h0|h0
   ·
    have:enode f=0:=h0;omega
   ·
    have e:f/2=enode f:=rfl;rw[e] at h0;omega
  simp only[List.getD,List.getElem?_set,if_neg this]
 have HLE:true=true->∀ i,(d.counts.set (enode f) 0).getD i 0<=d.counts.getD i 0:=fun _ i=>by
  by_cases e:enode f=i
  ·
   subst e;simp only[List.getD,List.getElem?_set];simp[hxl]
  ·
   simp only[List.getD,List.getElem?_set,if_neg e];omega
 have hrk:rk (enode f)<=m:=by
  rcases h.low with h0|h0
  ·
   have:enode f=0:=h0;omega
  ·
   have e:f/2=enode f:=rfl;rw[e] at h0;omega
 have hlow:∀ e,(okE (Zaa d) e)->(∀ c,Zaa d (e/2)=some c->rk (e/2)<rk (enode f))->e/2=0\/rk (e/2)<m:=fun e ho hr=>by
  rcases ho with h0|⟨c,hc⟩
  ·
   exact .inl h0
  ·
   exact .inr (by have:=hr c hc;omega)
 have st1:Zal o (w.setCell ⟨gc,enode f,none⟩ (.int .i64 ((0:Nat):Int))) sb (d.cd (d.counts.set (enode f) 0) d.dead) s:=h.st.setCount hv hne _ _;have hlt1:Zai o (w.setCell ⟨gc,enode f,none⟩ (.int .i64 ((0:Nat):Int))):=h.lt.mono (by simp[World.setCell]);have st2:Zal o ((w.setCell ⟨gc,enode f,none⟩ (.int .i64 ((0:Nat):Int))).setCell ⟨sb,4,none⟩ (.int .i64 ((d.dead+1:Nat):Int))) sb (d.cd (d.counts.set (enode f) 0) (d.dead+1)) s:=st1.setDead hlt1 _;have HCHG:=Hd (((Chg.refl RCnt o w).setCell (p:=⟨gc,enode f,none⟩) hgo (.inr rfl) (.int .i64 ((0:Nat):Int))).setCell (p:=⟨sb,4,none⟩) h.st.own (.inl rfl) (.int .i64 ((d.dead+1:Nat):Int)));have hlt2:Zai o ((w.setCell ⟨gc,enode f,none⟩ (.int .i64 ((0:Nat):Int))).setCell ⟨sb,4,none⟩ (.int .i64 ((d.dead+1:Nat):Int))):=hlt1.mono (by simp[World.setCell]);have hpa:=Zav hx;have hbN:∃ N,N=d.pool.has (enode f)/\N.lo=b.lo/\N.hi=b.hi:=⟨_,rfl,by rw[<- hpa.2.2];rfl,by rw[<- hpa.2.2];rfl⟩;have hex:addE (addE (addE (addE (bump ext (enode f) (-1)) b.lo 1) b.hi 1) b.lo (-1)) b.hi (-1)=addE ext f (-1):=by
  funext y;have h1:=congrFun (Zlu (ext:=ext) (f:=f)) y;have h2:enode f=f/2:=rfl;rw[h2,h1];simp only[addE];omega
 obtain⟨W2,hW2⟩:∃ W,W=(w.setCell ⟨gc,enode f,none⟩ (.int .i64 ((0:Nat):Int))).setCell ⟨sb,4,none⟩ (.int .i64 ((d.dead+1:Nat):Int)):=⟨_,rfl⟩;rw[<- hW2] at st2 HCHG hlt2;have HLT2:=Hd hlt2;have HPA:Hid (∀ W:World,Below W2.heap.size W2 W->Calls Tryz.prog 119 #[.pointer (some ⟨s.pb,0,none⟩),.int .i64 (enode f:Nat)] W fun x w'=>x=.returned (.tuple #[Zau (d.pool.has (enode f)),.bool (d.pool.tk (enode f))])/\Below W.heap.size W w') :=
  Hd (fun W hb=>Zcp o s.pb d.pool (enode f) W (st2.pool.below hb hlt2) (hlt2.mono hb.size))
 have HC1:Hid (∀ W:World,Below W2.heap.size W2 W->W.cell? ⟨sb,1,none⟩=some (.pointer (some ⟨s.pb,0,none⟩))):=Hd (fun W hb=>(cells5 (st2.below hlt2 hb).blk).2.1);have HLO:Hid (∀ W:World,Below W2.heap.size W2 W->Calls Tryz.prog 121 #[.pointer (some ⟨sb,0,none⟩),.int .i64 (b.lo:Nat)] W (Zbc o W sb (d.cd (d.counts.set (enode f) 0) (d.dead+1)) s rk m true (addE (addE (addE (bump ext (enode f) (-1)) b.lo 1) b.hi 1) b.lo (-1)))) :=
  Hd (fun W hb=>ih W _ _ b.lo ⟨st2.below hlt2 hb,hlt2.mono hb.size,h.acy,h.acy.okLo _ _ hx,hlv,fun y q hq=>Nat.le_trans (HLE rfl y) (h.top y q hq),fun y q hq=>by
   have h1:=h.pos y q hq;have h2:toE f y=if enode f=y then 1 else 0:=rfl
   have h3:=Zbq b.lo y;have h4:=Zbq b.hi y;simp only[addE,bump]
   by_cases e:y=enode f
   ·
    rw[if_pos e.symm] at h2;rw[if_pos e];omega
   ·
    rw[if_neg (Ne.symm e)] at h2;rw[if_neg e];omega,hlow b.lo (h.acy.okLo _ _ hx) (fun c hc=>h.acy.ltLo _ _ c hx hc)⟩)
 have HHI:Hid (∀ (W:World) (cs:List Nat) (dd:Nat),Zal o W sb ((d.cd (d.counts.set (enode f) 0) (d.dead+1)).cd cs dd) s->Zby ((d.cd (d.counts.set (enode f) 0) (d.dead+1)).cd cs dd) (addE (addE (addE (bump ext (enode f) (-1)) b.lo 1) b.hi 1) b.lo (-1))->(true=true->∀ i,cs.getD i 0<=(d.counts.set (enode f) 0).getD i 0)->Chg RCnt o o w W ->
  Calls Tryz.prog 121 #[.pointer (some ⟨sb,0,none⟩),.int .i64 (b.hi:Nat)] W (Zbc o W sb ((d.cd (d.counts.set (enode f) 0) (d.dead+1)).cd cs dd) s rk m true (addE ext f (-1)))) :=
  Hd (fun W cs dd hs hl hle hch=>by
   rw[<- hex]
   exact ih W _ _ b.hi ⟨hs,HLT.out.mono hch.size,h.acy,h.acy.okHi _ _ hx,hl,fun y q hq=>Nat.le_trans (Nat.le_trans (hle rfl y) (HLE rfl y)) (h.top y q hq),fun y q hq=>by
    have h1:=h.pos y q hq;have h2:toE f y=if enode f=y then 1 else 0:=rfl
    have h3:=Zbq b.lo y;have h4:=Zbq b.hi y;simp only[addE,bump]
    by_cases e:y=enode f
    ·
     rw[if_pos e.symm] at h2;rw[if_pos e];omega
    ·
     rw[if_neg (Ne.symm e)] at h2;rw[if_neg e];omega,hlow b.hi (h.acy.okHi _ _ hx) (fun c hc=>h.acy.ltHi _ _ c hx hc)⟩)
 have HEND:Hid (∀ (W:World) (cs:List Nat) (dd:Nat),Zal o W sb (d.cd cs dd) s->Zby (d.cd cs dd) (addE ext f (-1))->cs.length=(d.counts.set (enode f) 0).length->(∀ i,m+1<=rk i->cs.getD i 0=(d.counts.set (enode f) 0).getD i 0)->(true=true->∀ i,cs.getD i 0<=(d.counts.set (enode f) 0).getD i 0)->Chg RCnt o o w W ->
  Zbc o w sb d s rk (m+1) true (addE ext f (-1)) (.returned (.tuple #[])) W) :=
  fun W cs dd hs hl hlen hlw hle hch=>⟨cs,dd,rfl,hs,hl,by rw[hlen];simp,fun i hi=>(hlw i hi).trans (HLOW i hi),fun e i=>Nat.le_trans (hle e i) (HLE e i),hch⟩
 have HWE:Hid (W2=(w.setCell ⟨gc,enode f,none⟩ (.int .i64 0)).setCell ⟨sb,4,none⟩ (.int .i64 ((d.dead:Int)+1))):=by
  show _=_
  rw[hW2,show ((d.dead+1:Nat):Int)=(d.dead:Int)+1 from by omega];rfl
 have hid0:((enode f:Nat):Int)≠0:=by have:=htk.1;omega
 have HN:=Hd (fun W=>Zbs f W hf);have hne':sb≠gc:=fun e=>hne e.symm
 have hxl':((enode f:Nat):Int)<d.counts.length:=by omega
 obtain⟨N,hN,hNlo,hNhi⟩:=hbN;rw[<- hN] at HPA;rw[<- hNlo,<- hNhi] at HLO HHI;obtain⟨B,hB⟩:∃ B,B=d.pool.tk (enode f):=⟨_,rfl⟩;rw[<- hB] at HPA;rw[hc] at hcx;obtain⟨k,hk⟩:∃ k,k=enode f:=⟨_,rfl⟩;rw[<- hk] at hcx hfx HPA hid0 HN hxl' HWE;have hk0:((k:Int) == 0)=false:=by simpa using hid0
 have hk1:0<k:=by omega
 have hcm':d.counts.length<=9223372036854775807:=by unfold maxLen at hcm;omega
 obtain⟨dn,hdn⟩:∃ n,n=d.dead:=⟨_,rfl⟩;rw[<- hdn] at c4 hdb HWE;clear ih h hx hc hv hgo hlc hcm hfz hcell htk hid0 hxl hfl hf hlv st1 st2 hlt1 hlt2 HLOW HLE hrk hlow hW2 hex hN hNlo hNhi hB hdn hpa hk
 go_enter Tryz.func121,Tryz.ntmps121
 go_wp2_with fail;refine(HN.out _).mono ?_;rintro x w' ⟨rfl,rfl⟩;go_wp2_with fail;rw[<- HWE.out];refine(HPA.out W2 (Below.refl _ _)).mono ?_;rintro x v2 ⟨rfl,hb2⟩;unfold Zau;clear HWE c0 c1 c2 c3 c4 f0 hcx hfx HN hne hne' hxl' hk0 hk1 hcm' hdb;go_wp2_with fail;obtain⟨W3,hW3⟩:∃ W,W=v2.alloc (.cells #[.int .i64 N.id,.int .i64 N.v,.int .i64 N.lo,.int .i64 N.hi,.int .i64 N.refs] 65):=⟨_,rfl⟩;obtain⟨bx,hbx⟩:∃ bx,bx=v2.heap.size:=⟨_,rfl⟩;have hge:W2.heap.size<=bx:=by rw[hbx];exact hb2.size
 have hbf:Below W2.heap.size W2 W3:=by rw[hW3];exact hb2.alloc hb2.size _
 have hxf:W3.heap[bx]?=some (.cells #[.int .i64 N.id,.int .i64 N.v,.int .i64 N.lo,.int .i64 N.hi,.int .i64 N.refs] 65 (0,0)):=by rw[hW3,hbx];exact heap_alloc_new v2 _
 rw[<- hW3];rw[<- hbx];clear hW3 hbx hb2 HPA HC1;refine(HLO.out _ hbf).mono ?_;rintro x w1 ⟨cs1,dd1,rfl,st1,lv1,len1,low1,le1,chg1⟩;have hxg:=(chg1.alien (Array.getElem?_eq_some_iff.1 hxf).1 (HLT2.out.none hge)).trans hxf;obtain⟨z0,z1,z2,z3,z4,zz⟩:=cells5 hxg;have HS1:=Hd st1;have HL1:=Hd lv1;have HE1:=Hd len1;have HW1:=Hd low1;have HI1:=Hd le1;have HC3:=Hd ((HCHG.out.trans (Chg.of_below hbf RCnt o)).trans chg1);clear st1 lv1 len1 low1 le1 chg1 hxf hxg hbf;go_wp2_with fail;refine(HHI.out w1 cs1 dd1 HS1.out HL1.out (fun e=>by first|exact absurd e (by decide)|exact HI1.out (by simp)) HC3.out).mono ?_;rintro x w2 ⟨cs2,dd2,rfl,st2,lv2,len2,low2,le2,chg2⟩;have HFIN:=Hd (HEND.out w2 cs2 dd2 st2 lv2 (len2.trans HE1.out) (fun i hi=>(low2 i (by omega)).trans (HW1.out i (by omega))) (fun e i=>by first|exact absurd e (by decide)|exact Nat.le_trans (le2 (by simp) i) (HI1.out (by simp) i)) (HC3.out.trans chg2));clear st2 lv2 len2 low2 le2 chg2;go_wp2_with fail;refine bodyPost_end (Ze6 rfl _ _ _) rfl HFIN.out
theorem Zfk (o:Own) (sb:Nat) (s:Za0) (rk:Nat->Nat):∀ (m:Nat) (w:World) (d:Zac) (ext:Nat->Int) (f:Nat),Zoj o w sb d s rk ext f m ->
 Calls Tryz.prog 121 #[.pointer (some ⟨sb,0,none⟩),.int .i64 f] w (Zbc o w sb d s rk m true (addE ext f (-1)))
 | m,w,d,ext,f,h=>by
   by_cases h0:enode f=0
   ·
    exact Zw2 h h0
   ·
    obtain⟨b,hx⟩:∃ b,Zaa d (enode f)=some b:=h.ok.resolve_left h0
    have hp:0<Zas d (enode f):=h.live.cnt.pos_of_ext hx (by
     have h1:=h.pos _ _ hx;rw[show toE f (enode f)=1 from Ziv f] at h1;omega)
    by_cases hc:1<Zas d (enode f)
    ·
     exact Zw1 h hx hc
    ·
     cases m with
     | zero=>exact absurd (h.low.resolve_left h0) (by omega)
     | succ m=>exact Zw0 h hx (by omega) (Zfk o sb s rk m)
open Go.RowKit
def Zfb (r:Role):Prop:=r=.pool\/r=.slots\/r=.taken\/r=.free
def Zam (r:Role):Prop:=r=.store\/r=.levels\/r=.vars\/r=.level\/Zfb r\/r=.tabs\/(∃ v,r=.tab v\/r=.tmap v)\/r=.counts
section
variable {o o':Own} {w w':World} {sb:Nat} {d:Zac} {s:Za0}
theorem Zal.setPool (h:Zal o w sb d s) (hlt:Zai o w) {p':Zak} (hp:Zao o' w' s.pb p') (hc:Chg Zfb o o' w w'):Zal o' w' sb { d with pool:=p' } s:=by
 have n:∀ {r},r ≠ .pool->r ≠ .slots->r ≠ .taken->r ≠ .free->¬ Zfb r:=fun a b c d h=>by rcases h with h|h|h|h<;>contradiction
 exact⟨hc.ext _ _ h.own,hc.ext _ _ h.ownl,(hc.same hlt h.own (n (by simp) (by simp) (by simp) (by simp))).trans h.blk,(hc.same hlt h.ownl (n (by simp) (by simp) (by simp) (by simp))).trans h.lev,
  h.vars.chg hc hlt (n (by simp) (by simp) (by simp) (by simp)),h.level.chg hc hlt (n (by simp) (by simp) (by simp) (by simp)),hp,h.tabs.chg hc hlt (n (by simp) (by simp) (by simp) (by simp)),
  fun v hv=>(h.tab v hv).chg hc hlt (n (by simp) (by simp) (by simp) (by simp)) (n (by simp) (by simp) (by simp) (by simp)),h.counts.chg hc hlt (n (by simp) (by simp) (by simp) (by simp)),h.len,h.tlen⟩
theorem Zal.setTab (h:Zal o w sb d s) (hlt:Zai o w) {v:Nat} {f':Nat×Nat->Option Nat} (ht:Zc0 o' w' v (s.ts.getD v 0) f') (hc:Chg (· = .tmap v) o o' w w'):Zal o' w' sb { d with tab:=fun u=>if u=v then f' else d.tab u } s:=by
 refine⟨hc.ext _ _ h.own,hc.ext _ _ h.ownl,(hc.same hlt h.own (by simp)).trans h.blk,(hc.same hlt h.ownl (by simp)).trans h.lev,
  h.vars.chg hc hlt (by simp),h.level.chg hc hlt (by simp),h.pool.chg hc hlt (by simp) (by simp) (by simp) (by simp),h.tabs.chg hc hlt (by simp),
  fun u hu=>?_,h.counts.chg hc hlt (by simp),h.len,h.tlen⟩
 dsimp only
 by_cases e:u=v
 ·
  subst e;rw[if_pos rfl];exact ht
 ·
  rw[if_neg e];exact(h.tab u hu).chg hc hlt (by simp) (by simpa using e)
end
def Zat (d:Zac):Nat->Int:=fun i=>if d.pool.tk i=true then ((d.pool.nd i).refs:Int) else 0
structure Zfs (d d':Zac) (f:Nat) (sg:Int):Prop where
 vars:d'.vars=d.vars
 level:d'.level=d.level
 tab:d'.tab=d.tab
 nodes:Zaa d'=Zaa d
 many:d'.pool.many=d.pool.many
 free:d'.pool.free=d.pool.free
 room:d'.pool.room=d.pool.room
 len:d'.pool.at_.length=d.pool.at_.length
 clen:d'.counts.length=d.counts.length
 ext:∀ i,i≠0->Zat d' i=Zat d i+sg*toE f i
 live:Zby d' (Zat d')
def Zei (o:Own) (w:World) (sb:Nat) (d:Zac) (s:Za0) (f:Nat) (sg:Int) (e:Ending) (w':World):Prop :=
 ∃ d',e=.returned (.int .i64 0)/\Zal o w' sb d' s/\Zai o w'/\Zfs d d' f sg/\Chg Zam o o w w'
theorem Zip:∀ r,RCnt r->Zam r:=fun r h=>by rcases h with h|h<;>simp[Zam,h]
theorem Zge:∀ r:Role,r=.slots->Zam r:=fun r h=>by simp[Zam,Zfb,h]
def RN.ref (n:RN) (k:Nat):RN:={ n with refs:=k }
theorem Zgf {d:Zac} {x k:Nat} (hk:x<d.pool.at_.length) (ht:d.pool.tk x=true):Zaa { d with pool:=d.pool.setNd x ((d.pool.nd x).ref k) }=Zaa d:=by
 funext i;unfold Zaa;rw[Zak.setNd_get hk ht]
 by_cases e:i=x
 ·
  subst e;simp[Zak.get,ht,RN.ref,bnOf]
 ·
  rw[if_neg e]
theorem Zgv {d:Zac} {x k:Nat} (hk:x<d.pool.at_.length) (ht:d.pool.tk x=true):Zat { d with pool:=d.pool.setNd x ((d.pool.nd x).ref k) }=fun i=>if i=x then (k:Int) else Zat d i:=by
 funext i;unfold Zat;have h1:(d.pool.setNd x ((d.pool.nd x).ref k)).tk i=d.pool.tk i:=rfl;have h2:(d.pool.setNd x ((d.pool.nd x).ref k)).nd i=if i=x then (d.pool.nd x).ref k else d.pool.nd i:=Zhy hk i
 dsimp only;rw[h1,h2]
 by_cases e:i=x
 ·
  subst e;simp[ht,RN.ref]
 ·
  simp[e]
theorem Zb9 {d:Zac} {x:Nat} (ht:d.pool.tk x=true):Zat d x=((d.pool.nd x).refs:Int):=by simp[Zat,ht]
theorem Zk1 {d:Zac} {x k:Nat} {ext:Nat->Int} (hk:x<d.pool.at_.length) (ht:d.pool.tk x=true) (h:Zby d ext):Zby { d with pool:=d.pool.setNd x ((d.pool.nd x).ref k) } ext:=by
 have hn:=Zgf (k:=k) hk ht;have hL:({ d with pool:=d.pool.setNd x ((d.pool.nd x).ref k) }:Zac).pool.at_.length=d.pool.at_.length:=by simp[Zak.setNd]
 refine⟨?_,?_,?_⟩
 ·
  rw[hn,hL];exact h.cnt
 ·
  rw[hn,hL];exact h.dead
 ·
  rw[hn];exact h.has
theorem Zlp {o:Own} {w:World} {sb:Nat} {d:Zac} {s:Za0} (h:Zal o w sb d s) (hlt:Zai o w) (hl:Zby d (Zat d)) (f:Nat) (hf:f<eMax) (hx:enode f=0) :
 Calls Tryz.prog 80 #[.pointer (some ⟨sb,0,none⟩),.int .i64 f] w (Zei o w sb d s f 1):=by
 obtain⟨c0,c1,c2,c3,c4,f0⟩:=cells5 h.blk;have lsb:sb<w.heap.size:=Zab c0;have HPOST:Hid (∀ W:World,Below w.heap.size w W->Zei o w sb d s f 1 (.returned (.int .i64 0)) W):=fun W hb =>
  ⟨d,rfl,h.below hlt hb,hlt.mono hb.size,⟨rfl,rfl,rfl,rfl,rfl,rfl,rfl,rfl,rfl,fun i hi=>by
   have e:f/2=0:=hx;simp[toE,e,Ne.symm hi],hl⟩,Chg.of_below hb _ _⟩
 have hisv:(decide (enode f=0)||d.pool.tk (enode f))=true:=by rw[hx];rfl
 have HIS:Hid (∀ W:World,Below w.heap.size w W->Calls Tryz.prog 98 #[.pointer (some ⟨sb,0,none⟩),.int .i64 f] W fun x w'=>x=.returned (.bool true)/\Below W.heap.size W w'):=fun W hb=>by
  have h1:=Zdn (h.below hlt hb) (hlt.mono hb.size) f hf;rw[hisv] at h1;exact h1
 have htk:d.pool.tk 0=false:=h.pool.zero;have HPA:Hid (∀ W:World,Below w.heap.size w W->Calls Tryz.prog 119 #[.pointer (some ⟨s.pb,0,none⟩),.int .i64 (enode f:Nat)] W fun x w'=>x=.returned (.tuple #[Zau (d.pool.has (enode f)),.bool (d.pool.tk (enode f))])/\Below W.heap.size W w') :=
  Hd (fun W hb=>Zcp o s.pb d.pool (enode f) W (h.pool.below hb hlt) (hlt.mono hb.size))
 have HC1:Hid (∀ W:World,Below w.heap.size w W->W.cell? ⟨sb,1,none⟩=some (.pointer (some ⟨s.pb,0,none⟩))):=Hd (fun W hb=>(hb.cell (p:=⟨sb,1,none⟩) lsb).trans c1);have HN:=Hd (fun W=>Zbs f W hf);have htk':d.pool.tk (enode f)=false:=by rw[hx];exact htk
 obtain⟨N,hN⟩:∃ N,N=d.pool.has (enode f):=⟨_,rfl⟩;obtain⟨B,hB⟩:∃ B,B=d.pool.tk (enode f):=⟨_,rfl⟩;obtain⟨k,hk⟩:∃ k,k=enode f:=⟨_,rfl⟩;rw[<- hN,<- hB,<- hk] at HPA;rw[<- hk] at HN;have HB:=Hd (hB.trans htk');clear h hlt hl hf hx hisv c0 c1 c2 c3 c4 f0 lsb htk htk' hN hk hB
 go_enter Tryz.func80,Tryz.ntmps80
 go_wp2_with fail;refine(HIS.out _ (Below.refl _ _)).mono ?_;rintro x w1 ⟨rfl,hb1⟩;have HB1:=Hd hb1;clear hb1;go_upto_region 5 with fail;refine Zd9 (w0:=w) (N:=N) (v0:=.pointer (some ⟨sb,0,none⟩)) (v1:=.pointer (some ⟨sb,0,none⟩)) (v2:=.pointer (some ⟨sb,1,none⟩)) (v3:=.pointer (some ⟨s.pb,0,none⟩)) (v4:=.int .i64 f) (v5:=.int .i64 k) (v6:=.tuple #[Zau N,.bool B]) (v7:=.tuple #[Zau N,.bool B]) (v8:=Zau N) (v9:=.bool B) (v12:=.bool B) rfl (by kernel_rfl) (by kernel_rfl) ⟨⟨rfl,rfl,rfl,rfl,rfl,rfl,rfl⟩,rfl,rfl,rfl,rfl,rfl,rfl⟩ rfl (by decide) (Zbi HB1.out 1) (fun W _=>HN.out W) (fun W hb=>HPA.out W hb) (fun W hb=>?_) (fun x W=>?_) (fun x W X hX=>?_) (fun a W=>?_) (fun bx W Y hz hY=>?_) (fun bx W3 hge hbf hxf=>?_)
 ·
  have hc1:=HC1.out W hb;simp only[Zag];refine⟨?_,?_,?_,?_,?_⟩<;>go_simp
 ·
  simp only[Zag];refine⟨?_,?_⟩<;>go_simp
 ·
  subst hX;simp only[Zag];unfold Zau;refine⟨?_,?_,?_⟩<;>go_simp
 ·
  go_simp
 ·
  subst hY;obtain⟨e0,e1,e2,e3,e4,fz⟩:=cells5 hz;simp only[Zag];unfold Zau;refine⟨⟨_,_,_,rfl,Zbt (k:=0) fz e0 e1 e2 e3 e4 _ _ _ _ _⟩,fun W=>?_⟩;go_simp
 simp only[Zag];unfold Zau;obtain rfl:B=false:=HB.out;have HBF:=Hd hbf;clear hbf hxf HPA HN HIS HC1 HB1 HB;go_wp2_with fail;go_ret;exact HPOST.out _ HBF.out
theorem Zlo {o:Own} {w:World} {sb:Nat} {d:Zac} {s:Za0} (h:Zal o w sb d s) (hlt:Zai o w) (hl:Zby d (Zat d)) {rk:Nat->Nat} (ha:Acy (Zaa d) rk) (f:Nat) {b:BN} (hx:Zaa d (enode f)=some b)
 (htop:∀ y b,Zaa d y=some b->Zat d y<1099511627776) :
 Calls Tryz.prog 80 #[.pointer (some ⟨sb,0,none⟩),.int .i64 f] w (Zei o w sb d s f 1):=by
 obtain⟨c0,c1,c2,c3,c4,f0⟩:=cells5 h.blk;have lsb:sb<w.heap.size:=Zab c0;have hok:okE (Zaa d) f:=.inr ⟨b,hx⟩;have hf:f<eMax:=by have:=h.edge_lt hok;unfold eMax;omega
 have hns:=Zav hx;have htl:=h.tk_lt hx;have hrf:(d.pool.nd (enode f)).refs<1099511627776:=by have:=htop _ _ hx;rw[Zb9 hns.1] at this;omega
 have hid:(d.pool.nd (enode f)).id=enode f:=h.pool.id _ hns.1;have hisv:(decide (enode f=0)||d.pool.tk (enode f))=true:=by rw[hns.1];simp
 have HIS:Hid (∀ W:World,Below w.heap.size w W->Calls Tryz.prog 98 #[.pointer (some ⟨sb,0,none⟩),.int .i64 f] W fun x w'=>x=.returned (.bool true)/\Below W.heap.size W w'):=fun W hb=>by
  have h1:=Zdn (h.below hlt hb) (hlt.mono hb.size) f hf;rw[hisv] at h1;exact h1
 have HPA:Hid (∀ W:World,Below w.heap.size w W->Calls Tryz.prog 119 #[.pointer (some ⟨s.pb,0,none⟩),.int .i64 (enode f:Nat)] W fun x w'=>x=.returned (.tuple #[Zau (d.pool.has (enode f)),.bool (d.pool.tk (enode f))])/\Below W.heap.size W w') :=
  Hd (fun W hb=>Zcp o s.pb d.pool (enode f) W (h.pool.below hb hlt) (hlt.mono hb.size))
 have HC1:Hid (∀ W:World,Below w.heap.size w W->W.cell? ⟨sb,1,none⟩=some (.pointer (some ⟨s.pb,0,none⟩))):=Hd (fun W hb=>(hb.cell (p:=⟨sb,1,none⟩) lsb).trans c1);have HN:=Hd (fun W=>Zbs f W hf);obtain⟨r,hr⟩:∃ r,r=(d.pool.nd (enode f)).refs:=⟨_,rfl⟩
 skip
 have HSET:Hid (∀ W:World,Below w.heap.size w W->Calls Tryz.prog 120 #[.pointer (some ⟨s.pb,0,none⟩),Zau ((d.pool.nd (enode f)).ref (r+1))] W fun x w'=>x=.returned (.int .i64 0)/\Zal o w' sb { d with pool:=d.pool.setNd (enode f) ((d.pool.nd (enode f)).ref (r+1)) } s/\Chg Zam o o w w'/\Zai o w'):=fun W hb=>by
  have hi':d.pool.tk ((d.pool.nd (enode f)).ref (r+1)).id=true:=by show d.pool.tk (d.pool.nd (enode f)).id=true;rw[hid];exact hns.1
  refine(Zhd o s.pb d.pool ((d.pool.nd (enode f)).ref (r+1)) W (h.pool.below hb hlt) (hlt.mono hb.size) hi').mono ?_;rintro e w' ⟨rfl,hp,hc,hl'⟩;have e1:((d.pool.nd (enode f)).ref (r+1)).id=enode f:=hid;rw[e1] at hp;exact⟨rfl,(h.below hlt hb).setPool (hlt.mono hb.size) hp (hc.mono (fun r hr=>by simp[Zfb,hr])),(Chg.of_below hb _ _).trans (hc.mono Zge),hl'⟩
 have HMORE:Hid (∀ (W:World),Zal o W sb { d with pool:=d.pool.setNd (enode f) ((d.pool.nd (enode f)).ref (r+1)) } s->Zai o W->Chg Zam o o w W ->
  Calls Tryz.prog 122 #[.pointer (some ⟨sb,0,none⟩),.int .i64 f] W fun e w'=>e=.returned (.tuple #[])/\Zei o w sb d s f 1 (.returned (.int .i64 0)) w'):=fun W hs hl' hch=>by
  have hnd:=Zgf (d:=d) (k:=r+1) htl.2.1 hns.1
  refine(Zfl o sb s rk (rk (enode f)+1) W _ (Zat d) f ⟨hs,hl',by rw[hnd];exact ha,by rw[hnd];exact hok,Zk1 htl.2.1 hns.1 hl,fun y q hq=>(by
   rw[hnd] at hq;have h1:=htop y q hq;have h2:toE f y<=1:=by unfold toE;split<;>omega
   omega),.inr (Nat.lt_succ_self _)⟩).mono ?_
  rintro e w' ⟨cs,dd,rfl,hs2,hl2,hcl,_,_,hc2⟩;refine⟨rfl,_,rfl,hs2,hl'.mono hc2.size,⟨rfl,rfl,rfl,hnd,rfl,rfl,rfl,by simp[Zac.cd,Zak.setNd],hcl,fun i hi=>?_,hl2.congr (fun y b' hb'=>?_)⟩,hch.trans (hc2.mono Zip)⟩
  ·
   show Zat { d with pool:=d.pool.setNd (enode f) ((d.pool.nd (enode f)).ref (r+1)) } i=_
   rw[Zgv htl.2.1 hns.1];dsimp only;unfold toE
   by_cases e:i=enode f
   ·
    have e':f/2=i:=e.symm;rw[if_pos e,if_pos e',e,Zb9 hns.1,<- hr];omega
   ·
    have e':¬ f/2=i:=fun h'=>e h'.symm
    rw[if_neg e,if_neg e'];omega
  ·
   show Zat { d with pool:=d.pool.setNd (enode f) ((d.pool.nd (enode f)).ref (r+1)) } y=_
   rw[Zgv htl.2.1 hns.1];dsimp only;unfold addE toE
   by_cases e:y=enode f
   ·
    have e':f/2=y:=e.symm;rw[if_pos e,if_pos e',e,Zb9 hns.1,<- hr];omega
   ·
    have e':¬ f/2=y:=fun h'=>e h'.symm
    rw[if_neg e,if_neg e'];omega
 have hNn:d.pool.has (enode f)=d.pool.nd (enode f):=hns.2.1;rw[hNn] at HPA;have HREF:Hid (Zau ((d.pool.nd (enode f)).ref (r+1))=.agg #[.int .i64 (d.pool.nd (enode f)).id,.int .i64 (d.pool.nd (enode f)).v,.int .i64 (d.pool.nd (enode f)).lo,.int .i64 (d.pool.nd (enode f)).hi,.int .i64 ((r:Int)+1)]):=by
  show _=_
  unfold Zau RN.ref;dsimp only;rw[show ((r+1:Nat):Int)=(r:Int)+1 from by omega]
 rw[hns.1] at HPA;rw[<- hr] at hrf;obtain⟨N,hN⟩:∃ N,N=d.pool.nd (enode f):=⟨_,rfl⟩;have hNr:N.refs=r:=by rw[hN,hr]
 rw[<- hN] at HPA HREF HSET HMORE;obtain⟨B,hB⟩:∃ B,B=true:=⟨_,rfl⟩;rw[<- hB] at HPA;obtain⟨k,hk⟩:∃ k,k=enode f:=⟨_,rfl⟩;rw[<- hk] at HPA HN;have HBT:=Hd hB;have HNR:=Hd hNr;have HW0:=Hd hk;clear h hlt hl ha hx htop hf hns hisv htl hid hr hNn hN hB hk hok c0 c1 c2 c3 c4 f0 lsb hNr
 go_enter Tryz.func80,Tryz.ntmps80
 go_wp2_with fail;refine(HIS.out _ (Below.refl _ _)).mono ?_;rintro x w1 ⟨rfl,hb1⟩;have HB1:=Hd hb1;clear hb1 HIS;go_upto_region 5 with fail;refine Zd9 (w0:=w) (N:=N) (v0:=.pointer (some ⟨sb,0,none⟩)) (v1:=.pointer (some ⟨sb,0,none⟩)) (v2:=.pointer (some ⟨sb,1,none⟩)) (v3:=.pointer (some ⟨s.pb,0,none⟩)) (v4:=.int .i64 f) (v5:=.int .i64 k) (v6:=.tuple #[Zau N,.bool B]) (v7:=.tuple #[Zau N,.bool B]) (v8:=Zau N) (v9:=.bool B) (v12:=.bool B) rfl (by kernel_rfl) (by kernel_rfl) ⟨⟨rfl,rfl,rfl,rfl,rfl,rfl,rfl⟩,rfl,rfl,rfl,rfl,rfl,rfl⟩ rfl (by decide) (Zbi HB1.out 1) (fun W _=>HN.out W) (fun W hb=>HPA.out W hb) (fun W hb=>?_) (fun x W=>?_) (fun x W X hX=>?_) (fun a W=>?_) (fun bx W Y hz hY=>?_) (fun bx W3 hge hbf hxf=>?_)
 ·
  have hc1:=HC1.out W hb;simp only[Zag];refine⟨?_,?_,?_,?_,?_⟩<;>go_simp
 ·
  simp only[Zag];refine⟨?_,?_⟩<;>go_simp
 ·
  subst hX;simp only[Zag];unfold Zau;refine⟨?_,?_,?_⟩<;>go_simp
 ·
  go_simp
 ·
  subst hY;obtain⟨e0,e1,e2,e3,e4,fz⟩:=cells5 hz;simp only[Zag];unfold Zau;refine⟨⟨_,_,_,rfl,Zbt (k:=0) fz e0 e1 e2 e3 e4 _ _ _ _ _⟩,fun W=>?_⟩;go_simp
 simp only[Zag];unfold Zau;obtain rfl:B=true:=HBT.out;have hxf':=hxf;unfold Zvw at hxf';rw[HNR.out] at hxf';have HXF:=Hd hxf';have HBF:=Hd hbf;obtain⟨y0,y1,y2,y3,y4,yz⟩:=cells5 hxf';clear hxf hxf' hbf HNR HPA HN HBT;go_upto_region 8 with fail;have hxz:=Zae (k:=4) HXF.out (.int .i64 ((r:Int)+1));have hbz:Below w.heap.size w (W3.setCell ⟨bx,4,none⟩ (.int .i64 ((r:Int)+1))):=HBF.out.setCell (p:=⟨bx,4,none⟩) hge _;obtain⟨W4,hW4⟩:∃ W,W=W3.setCell ⟨bx,4,none⟩ (.int .i64 ((r:Int)+1)):=⟨_,rfl⟩;rw[<- hW4] at hxz hbz ⊢;clear hW4 HXF HBF y0 y1 y2 y3 y4 yz;simp at hxz;obtain⟨z0,z1,z2,z3,z4,zz⟩:=cells5 hxz;have hc1:=HC1.out _ hbz;refine Zan (fun w'=>w'=W4.drew) true 5 [(0,false),(1,false),(2,false),(3,false),(4,false),(5,true)] (by kernel_rfl) (by kernel_rfl) rfl ?_;simp only[planned,Zd8]
 iterate 5
  refine Zap rfl ?_;apply Exists.intro;refine⟨fun w' hw=>?_,?_⟩
  ·
   subst hw;go_simp;rfl
  simp only[Zag]
 refine Zel rfl (fun K hK=>?_);unfold Oper.wp;go_simp;rw[<- HREF.out];refine(HSET.out _ (Zbi hbz 1)).mono ?_;rintro x w5 ⟨rfl,hs5,hc5,hl5⟩;refine hK _ _ (Zbx ?_);have HS5:=Hd hs5;have HC5:=Hd hc5;have HL5:=Hd hl5;clear hs5 hc5 hl5 hxz hbz z0 z1 z2 z3 z4 zz hc1;go_wp2_with fail;refine(HMORE.out _ HS5.out HL5.out HC5.out).mono ?_;rintro x w6 ⟨rfl,hp⟩;have HP:=Hd hp;clear hp;go_wp2_with fail;go_ret;exact HP.out
open Go.RowKit
theorem Zln {o:Own} {w:World} {sb:Nat} {d:Zac} {s:Za0} (h:Zal o w sb d s) (hlt:Zai o w) (hl:Zby d (Zat d)) (f:Nat) (hf:f<eMax) (hx:enode f=0) :
 Calls Tryz.prog 79 #[.pointer (some ⟨sb,0,none⟩),.int .i64 f] w (Zei o w sb d s f (-1)):=by
 obtain⟨c0,c1,c2,c3,c4,f0⟩:=cells5 h.blk;have lsb:sb<w.heap.size:=Zab c0;have HPOST:Hid (∀ W:World,Below w.heap.size w W->Zei o w sb d s f (-1) (.returned (.int .i64 0)) W):=fun W hb =>
  ⟨d,rfl,h.below hlt hb,hlt.mono hb.size,⟨rfl,rfl,rfl,rfl,rfl,rfl,rfl,rfl,rfl,fun i hi=>by
   have e:f/2=0:=hx;simp[toE,e,Ne.symm hi],hl⟩,Chg.of_below hb _ _⟩
 have hisv:(decide (enode f=0)||d.pool.tk (enode f))=true:=by rw[hx];rfl
 have HIS:Hid (∀ W:World,Below w.heap.size w W->Calls Tryz.prog 98 #[.pointer (some ⟨sb,0,none⟩),.int .i64 f] W fun x w'=>x=.returned (.bool true)/\Below W.heap.size W w'):=fun W hb=>by
  have h1:=Zdn (h.below hlt hb) (hlt.mono hb.size) f hf;rw[hisv] at h1;exact h1
 have htk:d.pool.tk 0=false:=h.pool.zero;have HPA:Hid (∀ W:World,Below w.heap.size w W->Calls Tryz.prog 119 #[.pointer (some ⟨s.pb,0,none⟩),.int .i64 (enode f:Nat)] W fun x w'=>x=.returned (.tuple #[Zau (d.pool.has (enode f)),.bool (d.pool.tk (enode f))])/\Below W.heap.size W w') :=
  Hd (fun W hb=>Zcp o s.pb d.pool (enode f) W (h.pool.below hb hlt) (hlt.mono hb.size))
 have HC1:Hid (∀ W:World,Below w.heap.size w W->W.cell? ⟨sb,1,none⟩=some (.pointer (some ⟨s.pb,0,none⟩))):=Hd (fun W hb=>(hb.cell (p:=⟨sb,1,none⟩) lsb).trans c1);have HN:=Hd (fun W=>Zbs f W hf);have htk':d.pool.tk (enode f)=false:=by rw[hx];exact htk
 obtain⟨N,hN⟩:∃ N,N=d.pool.has (enode f):=⟨_,rfl⟩;obtain⟨B,hB⟩:∃ B,B=d.pool.tk (enode f):=⟨_,rfl⟩;obtain⟨k,hk⟩:∃ k,k=enode f:=⟨_,rfl⟩;rw[<- hN,<- hB,<- hk] at HPA;rw[<- hk] at HN;have HB:=Hd (hB.trans htk');clear h hlt hl hf hx hisv c0 c1 c2 c3 c4 f0 lsb htk htk' hN hk hB
 go_enter Tryz.func79,Tryz.ntmps79
 go_wp2_with fail;refine(HIS.out _ (Below.refl _ _)).mono ?_;rintro x w1 ⟨rfl,hb1⟩;have HB1:=Hd hb1;clear hb1;go_upto_region 5 with fail;refine Zd9 (w0:=w) (N:=N) (v0:=.pointer (some ⟨sb,0,none⟩)) (v1:=.pointer (some ⟨sb,0,none⟩)) (v2:=.pointer (some ⟨sb,1,none⟩)) (v3:=.pointer (some ⟨s.pb,0,none⟩)) (v4:=.int .i64 f) (v5:=.int .i64 k) (v6:=.tuple #[Zau N,.bool B]) (v7:=.tuple #[Zau N,.bool B]) (v8:=Zau N) (v9:=.bool B) (v12:=.bool B) rfl (by kernel_rfl) (by kernel_rfl) ⟨⟨rfl,rfl,rfl,rfl,rfl,rfl,rfl⟩,rfl,rfl,rfl,rfl,rfl,rfl⟩ rfl (by decide) (Zbi HB1.out 1) (fun W _=>HN.out W) (fun W hb=>HPA.out W hb) (fun W hb=>?_) (fun x W=>?_) (fun x W X hX=>?_) (fun a W=>?_) (fun bx W Y hz hY=>?_) (fun bx W3 hge hbf hxf=>?_)
 ·
  have hc1:=HC1.out W hb;simp only[Zag];refine⟨?_,?_,?_,?_,?_⟩<;>go_simp
 ·
  simp only[Zag];refine⟨?_,?_⟩<;>go_simp
 ·
  subst hX;simp only[Zag];unfold Zau;refine⟨?_,?_,?_⟩<;>go_simp
 ·
  go_simp
 ·
  subst hY;obtain⟨e0,e1,e2,e3,e4,fz⟩:=cells5 hz;simp only[Zag];unfold Zau;refine⟨⟨_,_,_,rfl,Zbt (k:=0) fz e0 e1 e2 e3 e4 _ _ _ _ _⟩,fun W=>?_⟩;go_simp
 simp only[Zag];unfold Zau;obtain rfl:B=false:=HB.out;have HBF:=Hd hbf;clear hbf hxf HPA HN HIS HC1 HB1 HB;go_wp2_with fail;go_ret;exact HPOST.out _ HBF.out
theorem Zlm {o:Own} {w:World} {sb:Nat} {d:Zac} {s:Za0} (h:Zal o w sb d s) (hlt:Zai o w) (hl:Zby d (Zat d)) {rk:Nat->Nat} (ha:Acy (Zaa d) rk) (f:Nat) {b:BN} (hx:Zaa d (enode f)=some b)
 (htop:∀ y b,Zaa d y=some b->Zat d y<1099511627776) (hpos:1<=Zat d (enode f)) (hcn:∀ y b,Zaa d y=some b->Zas d y<=2199023255552) :
 Calls Tryz.prog 79 #[.pointer (some ⟨sb,0,none⟩),.int .i64 f] w (Zei o w sb d s f (-1)):=by
 obtain⟨c0,c1,c2,c3,c4,f0⟩:=cells5 h.blk;have lsb:sb<w.heap.size:=Zab c0;have hok:okE (Zaa d) f:=.inr ⟨b,hx⟩;have hf:f<eMax:=by have:=h.edge_lt hok;unfold eMax;omega
 have hns:=Zav hx;have htl:=h.tk_lt hx;have hrf:(d.pool.nd (enode f)).refs<1099511627776:=by have:=htop _ _ hx;rw[Zb9 hns.1] at this;omega
 have hid:(d.pool.nd (enode f)).id=enode f:=h.pool.id _ hns.1;have hisv:(decide (enode f=0)||d.pool.tk (enode f))=true:=by rw[hns.1];simp
 have HIS:Hid (∀ W:World,Below w.heap.size w W->Calls Tryz.prog 98 #[.pointer (some ⟨sb,0,none⟩),.int .i64 f] W fun x w'=>x=.returned (.bool true)/\Below W.heap.size W w'):=fun W hb=>by
  have h1:=Zdn (h.below hlt hb) (hlt.mono hb.size) f hf;rw[hisv] at h1;exact h1
 have HPA:Hid (∀ W:World,Below w.heap.size w W->Calls Tryz.prog 119 #[.pointer (some ⟨s.pb,0,none⟩),.int .i64 (enode f:Nat)] W fun x w'=>x=.returned (.tuple #[Zau (d.pool.has (enode f)),.bool (d.pool.tk (enode f))])/\Below W.heap.size W w') :=
  Hd (fun W hb=>Zcp o s.pb d.pool (enode f) W (h.pool.below hb hlt) (hlt.mono hb.size))
 have HC1:Hid (∀ W:World,Below w.heap.size w W->W.cell? ⟨sb,1,none⟩=some (.pointer (some ⟨s.pb,0,none⟩))):=Hd (fun W hb=>(hb.cell (p:=⟨sb,1,none⟩) lsb).trans c1);have HN:=Hd (fun W=>Zbs f W hf);obtain⟨r,hr⟩:∃ r,r=(d.pool.nd (enode f)).refs:=⟨_,rfl⟩;have hrp:1<=r:=by rw[Zb9 hns.1] at hpos;omega
 have HSET:Hid (∀ W:World,Below w.heap.size w W->Calls Tryz.prog 120 #[.pointer (some ⟨s.pb,0,none⟩),Zau ((d.pool.nd (enode f)).ref (r-1))] W fun x w'=>x=.returned (.int .i64 0)/\Zal o w' sb { d with pool:=d.pool.setNd (enode f) ((d.pool.nd (enode f)).ref (r-1)) } s/\Chg Zam o o w w'/\Zai o w'):=fun W hb=>by
  have hi':d.pool.tk ((d.pool.nd (enode f)).ref (r-1)).id=true:=by show d.pool.tk (d.pool.nd (enode f)).id=true;rw[hid];exact hns.1
  refine(Zhd o s.pb d.pool ((d.pool.nd (enode f)).ref (r-1)) W (h.pool.below hb hlt) (hlt.mono hb.size) hi').mono ?_;rintro e w' ⟨rfl,hp,hc,hl'⟩;have e1:((d.pool.nd (enode f)).ref (r-1)).id=enode f:=hid;rw[e1] at hp;exact⟨rfl,(h.below hlt hb).setPool (hlt.mono hb.size) hp (hc.mono (fun r hr=>by simp[Zfb,hr])),(Chg.of_below hb _ _).trans (hc.mono Zge),hl'⟩
 have HMORE:Hid (∀ (W:World),Zal o W sb { d with pool:=d.pool.setNd (enode f) ((d.pool.nd (enode f)).ref (r-1)) } s->Zai o W->Chg Zam o o w W ->
  Calls Tryz.prog 121 #[.pointer (some ⟨sb,0,none⟩),.int .i64 f] W fun e w'=>e=.returned (.tuple #[])/\Zei o w sb d s f (-1) (.returned (.int .i64 0)) w'):=fun W hs hl' hch=>by
  have hnd:=Zgf (d:=d) (k:=r-1) htl.2.1 hns.1
  refine(Zfk o sb s rk (rk (enode f)+1) W _ (Zat d) f ⟨hs,hl',by rw[hnd];exact ha,by rw[hnd];exact hok,Zk1 htl.2.1 hns.1 hl,fun y q hq=>hcn y q (by rw[hnd] at hq;exact hq),fun y q hq=>(by
   rw[hnd] at hq
   by_cases e:enode f=y
   ·
    subst e;have h1:Zat d (enode f)=(r:Int):=by rw[Zb9 hns.1,hr]
    have h2:toE f (enode f)=1:=Ziv f;rw[h1,h2];omega
   ·
    have h1:toE f y=0:=if_neg e;have h2:0<=Zat d y:=by unfold Zat;split<;>omega
    rw[h1];omega),.inr (Nat.lt_succ_self _)⟩).mono ?_
  rintro e w' ⟨cs,dd,rfl,hs2,hl2,hcl,_,_,hc2⟩;refine⟨rfl,_,rfl,hs2,hl'.mono hc2.size,⟨rfl,rfl,rfl,hnd,rfl,rfl,rfl,by simp[Zac.cd,Zak.setNd],hcl,fun i hi=>?_,hl2.congr (fun y b' hb'=>?_)⟩,hch.trans (hc2.mono Zip)⟩
  ·
   show Zat { d with pool:=d.pool.setNd (enode f) ((d.pool.nd (enode f)).ref (r-1)) } i=_
   rw[Zgv htl.2.1 hns.1];dsimp only;unfold toE
   by_cases e:i=enode f
   ·
    have e':f/2=i:=e.symm;rw[if_pos e,if_pos e',e,Zb9 hns.1,<- hr];omega
   ·
    have e':¬ f/2=i:=fun h'=>e h'.symm
    rw[if_neg e,if_neg e'];omega
  ·
   show Zat { d with pool:=d.pool.setNd (enode f) ((d.pool.nd (enode f)).ref (r-1)) } y=_
   rw[Zgv htl.2.1 hns.1];dsimp only;unfold addE toE
   by_cases e:y=enode f
   ·
    have e':f/2=y:=e.symm;rw[if_pos e,if_pos e',e,Zb9 hns.1,<- hr];omega
   ·
    have e':¬ f/2=y:=fun h'=>e h'.symm
    rw[if_neg e,if_neg e'];omega
 have hNn:d.pool.has (enode f)=d.pool.nd (enode f):=hns.2.1;rw[hNn] at HPA;have HREF:Hid (Zau ((d.pool.nd (enode f)).ref (r-1))=.agg #[.int .i64 (d.pool.nd (enode f)).id,.int .i64 (d.pool.nd (enode f)).v,.int .i64 (d.pool.nd (enode f)).lo,.int .i64 (d.pool.nd (enode f)).hi,.int .i64 ((r:Int)-1)]):=by
  show _=_
  unfold Zau RN.ref;dsimp only;rw[show ((r-1:Nat):Int)=(r:Int)-1 from by omega]
 rw[hns.1] at HPA;rw[<- hr] at hrf;obtain⟨N,hN⟩:∃ N,N=d.pool.nd (enode f):=⟨_,rfl⟩;have hNr:N.refs=r:=by rw[hN,hr]
 rw[<- hN] at HPA HREF HSET HMORE;obtain⟨B,hB⟩:∃ B,B=true:=⟨_,rfl⟩;rw[<- hB] at HPA;obtain⟨k,hk⟩:∃ k,k=enode f:=⟨_,rfl⟩;rw[<- hk] at HPA HN;have HBT:=Hd hB;have HNR:=Hd hNr;have HW0:=Hd hk;clear h hlt hl ha hx htop hf hns hisv htl hid hr hNn hN hB hk hok c0 c1 c2 c3 c4 f0 lsb hNr hpos hcn
 go_enter Tryz.func79,Tryz.ntmps79
 go_wp2_with fail;refine(HIS.out _ (Below.refl _ _)).mono ?_;rintro x w1 ⟨rfl,hb1⟩;have HB1:=Hd hb1;clear hb1 HIS;go_upto_region 5 with fail;refine Zd9 (w0:=w) (N:=N) (v0:=.pointer (some ⟨sb,0,none⟩)) (v1:=.pointer (some ⟨sb,0,none⟩)) (v2:=.pointer (some ⟨sb,1,none⟩)) (v3:=.pointer (some ⟨s.pb,0,none⟩)) (v4:=.int .i64 f) (v5:=.int .i64 k) (v6:=.tuple #[Zau N,.bool B]) (v7:=.tuple #[Zau N,.bool B]) (v8:=Zau N) (v9:=.bool B) (v12:=.bool B) rfl (by kernel_rfl) (by kernel_rfl) ⟨⟨rfl,rfl,rfl,rfl,rfl,rfl,rfl⟩,rfl,rfl,rfl,rfl,rfl,rfl⟩ rfl (by decide) (Zbi HB1.out 1) (fun W _=>HN.out W) (fun W hb=>HPA.out W hb) (fun W hb=>?_) (fun x W=>?_) (fun x W X hX=>?_) (fun a W=>?_) (fun bx W Y hz hY=>?_) (fun bx W3 hge hbf hxf=>?_)
 ·
  have hc1:=HC1.out W hb;simp only[Zag];refine⟨?_,?_,?_,?_,?_⟩<;>go_simp
 ·
  simp only[Zag];refine⟨?_,?_⟩<;>go_simp
 ·
  subst hX;simp only[Zag];unfold Zau;refine⟨?_,?_,?_⟩<;>go_simp
 ·
  go_simp
 ·
  subst hY;obtain⟨e0,e1,e2,e3,e4,fz⟩:=cells5 hz;simp only[Zag];unfold Zau;refine⟨⟨_,_,_,rfl,Zbt (k:=0) fz e0 e1 e2 e3 e4 _ _ _ _ _⟩,fun W=>?_⟩;go_simp
 simp only[Zag];unfold Zau;obtain rfl:B=true:=HBT.out;have hxf':=hxf;unfold Zvw at hxf';rw[HNR.out] at hxf';have HXF:=Hd hxf';have HBF:=Hd hbf;obtain⟨y0,y1,y2,y3,y4,yz⟩:=cells5 hxf';clear hxf hxf' hbf HNR HPA HN HBT;go_upto_region 11 with fail;have hxz:=Zae (k:=4) HXF.out (.int .i64 ((r:Int)-1));have hbz:Below w.heap.size w (W3.setCell ⟨bx,4,none⟩ (.int .i64 ((r:Int)-1))):=HBF.out.setCell (p:=⟨bx,4,none⟩) hge _;obtain⟨W4,hW4⟩:∃ W,W=W3.setCell ⟨bx,4,none⟩ (.int .i64 ((r:Int)-1)):=⟨_,rfl⟩;rw[<- hW4] at hxz hbz ⊢;clear hW4 HXF HBF y0 y1 y2 y3 y4 yz;simp at hxz;obtain⟨z0,z1,z2,z3,z4,zz⟩:=cells5 hxz;have hc1:=HC1.out _ hbz;refine Zan (fun w'=>w'=W4.drew) true 5 [(0,false),(1,false),(2,false),(3,false),(4,false),(5,true)] (by kernel_rfl) (by kernel_rfl) rfl ?_;simp only[planned,Zd8]
 iterate 5
  refine Zap rfl ?_;apply Exists.intro;refine⟨fun w' hw=>?_,?_⟩
  ·
   subst hw;go_simp;rfl
  simp only[Zag]
 refine Zel rfl (fun K hK=>?_);unfold Oper.wp;go_simp;rw[<- HREF.out];refine(HSET.out _ (Zbi hbz 1)).mono ?_;rintro x w5 ⟨rfl,hs5,hc5,hl5⟩;refine hK _ _ (Zbx ?_);have HS5:=Hd hs5;have HC5:=Hd hc5;have HL5:=Hd hl5;clear hs5 hc5 hl5 hxz hbz z0 z1 z2 z3 z4 zz hc1;go_wp2_with fail;refine(HMORE.out _ HS5.out HL5.out HC5.out).mono ?_;rintro x w6 ⟨rfl,hp⟩;have HP:=Hd hp;clear hp;go_wp2_with fail;go_ret;exact HP.out
open Go.RowKit
structure Zvh (p p':Zak) (id:Nat) (n:RN):Prop where
 get:∀ i,p'.get i=if i=id then some { n with id:=id } else p.get i
 none:p.tk id=false
 pos:0<id
 lt:id<p'.at_.length
 le:p.at_.length<=p'.at_.length
 many:p'.many=p.many+1
 room:p'.room=p.room
theorem Zp6 (o:Own) (pb:Nat) (p:Zak) (n:RN) (w:World) (h:Zao o w pb p) (hlt:Zai o w) :
 Calls Tryz.prog 169 #[.pointer (some ⟨pb,0,none⟩),Zau n] w fun x w'=>(p.many=p.room/\x=.returned (.tuple #[.int .i64 0,.int .i64 7])/\Below w.heap.size w w') \/
  (∃ id p' o',x=.returned (.tuple #[.int .i64 (id:Nat),.int .i64 0])/\Zao o' w' pb p'/\Zvh p p' id n/\Chg Zfb o o' w w'/\Zai o' w'):=by
 rcases List.eq_nil_or_concat p.free with hf|⟨fs,id,hf⟩
 ·
  by_cases hr:p.at_.length<=p.room
  ·
   refine(Zli o pb p n w h hlt hf hr).mono ?_;rintro e w' ⟨rfl,o',h1,h2,h3⟩;refine .inr ⟨_,_,o',rfl,h1,⟨fun i=>Zak.fresh_get h.len i,?_,h.pos,by simp[Zak.fresh],by simp[Zak.fresh],rfl,rfl⟩,h2,h3⟩;simp[Zak.tk,List.getD,List.getElem?_eq_none (Nat.le_of_eq h.len)]
  ·
   refine(Znx o pb p n w h hf (by omega)).mono ?_;rintro e w' ⟨rfl,hb⟩;refine .inl ⟨?_,rfl,hb⟩;have h1:=h.many;have h2:=h.top;rw[hf] at h1;simp at h1;omega
 ·
  rw[List.concat_eq_append] at hf;have hm:=h.free id (by rw[hf];simp);refine(Zlj o pb p n fs id w h hlt hf).mono ?_;rintro e w' ⟨rfl,h1,h2,h3⟩;exact .inr ⟨id,_,o,rfl,h1,⟨fun i=>Zak.reuse_get hm.2.1 (by rw[h.len];exact hm.2.1) i,hm.2.2,hm.1,by simp[Zak.reuse];exact hm.2.1,by simp[Zak.reuse],rfl,rfl⟩,h2,h3⟩
structure Zjv (d d':Zac) (id v lo hi:Nat):Prop where
 vars:d'.vars=d.vars
 level:d'.level=d.level
 tab:d'.tab=fun u=>if u=v then putF (d.tab v) (lo,hi) (some id) else d.tab u
 nodes:Zaa d'=addN (Zaa d) id ⟨v,lo,hi⟩
 none:Zaa d id=none
 pos:0<id
 many:d'.pool.many=d.pool.many+1
 room:d'.pool.room=d.pool.room
 ext:Zat d'=fun i=>if i=id then 0 else Zat d i
 live:Zby d' (Zat d')
 clen:d'.counts.length<=1048578
 cnt:Zas d'=setC (Zas d) id 0
def Yba (o:Own) (w:World) (sb:Nat) (d:Zac) (v lo hi:Nat) (e:Ending) (w':World):Prop :=
 (d.pool.many=d.pool.room/\e=.returned (.tuple #[.int .i64 0,.int .i64 7])/\Below w.heap.size w w') \/
 (∃ id d' o',e=.returned (.tuple #[.int .i64 (id:Nat),.int .i64 0])/\Zaq o' w' sb d'/\Zai o' w'/\Zjv d d' id v lo hi/\Chg Zam o o' w w')
theorem Zv9 {k k':Nat} {N:Nat->Option BN} {c:Nat->Nat} {id:Nat} {b:BN} (hlt:∀ i b,N i=some b->i<k) (hk:k<=k') (hf:N id=none) (hid:id<k'):Zd2 k' (addN N id b) (setC c id 0)=Zd2 k N c+1:=by
 unfold Zd2;rw[Zdg (f:=dead1 N c) (j:=id) (fun i hi=>?_) k' hid]
 ·
  rw[Zqi (k:=k) (fun i hi=>?_) hk]
  ·
   simp[dead1,hf,Zbk,setC]
  ·
   unfold dead1;cases e:N i with
   | none=>rfl
   | some b'=>exact absurd (hlt i b' e) (by omega)
 ·
  unfold dead1;rw[Zaw _ hi];simp only[setC,if_neg hi]
section
variable {o o':Own} {w w':World} {sb:Nat} {d:Zac} {s:Za0}
theorem Zal.setVc (h:Zal o w sb d s) (hlt:Zai o w) {v:Value} {cs:List Nat} (hr:RowR o' w' .counts 3 1 v cs.length (cs.map nat64)) (hc:Chg (· = .counts) o o' w w'):Zal o' (w'.setCell ⟨sb,3,none⟩ v) sb (d.cd cs d.dead) { s with vc:=v }:=by
 have hob:=hc.ext _ _ h.own;have ne:∀ {b r},o' b=some r->r ≠ .store->b≠sb:=fun hb hr e=>by subst e;rw[hob] at hb;cases hb;exact hr rfl
 have k1:∀ {b r},o' b=some r->r ≠ .store->(w'.setCell ⟨sb,3,none⟩ v).heap[b]?=w'.heap[b]?:=fun hb hr=>Zad (ne hb hr) _
 refine⟨hob,hc.ext _ _ h.ownl,Zae (k:=3) ((hc.same hlt h.own (by simp)).trans h.blk) _,(k1 (hc.ext _ _ h.ownl) (by simp)).trans ((hc.same hlt h.ownl (by simp)).trans h.lev),
  (h.vars.chg hc hlt (by simp)).keep (fun g hg=>k1 hg (by simp)) (fun _ h=>h),(h.level.chg hc hlt (by simp)).keep (fun g hg=>k1 hg (by simp)) (fun _ h=>h),
  (h.pool.chg hc hlt (by simp) (by simp) (by simp) (by simp)).keep (fun g r hg hr=>k1 hg (by rcases hr with rfl|rfl|rfl|rfl<;>simp)) (fun _ _ h=>h),
  (h.tabs.chg hc hlt (by simp)).keep (fun g hg=>k1 hg (by simp)) (fun _ h=>h),
  fun u hu=>((h.tab u hu).chg hc hlt (by simp) (by simp)).keep (fun g r hg hr=>k1 hg (by rcases hr with rfl|rfl<;>simp)) (fun _ _ h=>h),
  hr.keep (fun g hg=>k1 hg (by simp)) (fun _ h=>h),h.len,h.tlen⟩
end
theorem Zal.tabAt {o:Own} {w:World} {sb:Nat} {d:Zac} {s:Za0} (h:Zal o w sb d s) {v:Nat} (hv:v<d.vars.length):∃ gt cap,s.vt=.slice (some ⟨gt,0,none⟩) s.ts.length cap/\w.cell? ⟨gt,v,none⟩=some (.pointer (some ⟨s.ts.getD v 0,0,none⟩))/\v<s.ts.length/\s.ts.length<=9223372036854775807:=by
 have hvl:v<s.ts.length:=by rw[h.tlen];exact hv
 obtain⟨gt,cap,hvt,_,h1,h2⟩:=h.tabs.shape (by omega);have hr:=h.tabs;rw[hvt] at hr;refine⟨gt,cap,hvt,?_,hvl,by unfold maxLen at h2;omega⟩;rw[hr.cell v (by simpa using hvl),List.getElem?_map,List.getElem?_eq_getElem hvl];simp[ptrV,List.getD,hvl]
structure AddS (o:Own) (w:World) (sb:Nat) (d:Zac) (ts:List Nat) (vt:Value) (o1:Own) (wx:World):Prop where
 st:∃ s,Zal o1 wx sb d s/\s.ts=ts/\s.vt=vt
 lt:Zai o1 wx
 chg:Chg Zam o o1 w wx
theorem Zws:(Tryz.prog.info? 3).map (fun i=>(i.zero,i.size,i.bytes))=some (some (.int .i64 0),1,8):=by kernel_rfl
def padC (cs:List Nat) (j:Nat):List Nat:=cs++List.replicate j 0
theorem Zxp (cs:List Nat) (j:Nat):padC cs (j+1)=padC cs j++[0]:=by unfold padC;rw[List.replicate_succ',List.append_assoc]
theorem Zh3 (cs:List Nat) (j:Nat):(padC cs j).length=cs.length+j:=by simp[padC]
theorem Zzu (cs:List Nat) (j i:Nat):(padC cs j).getD i 0=cs.getD i 0:=by
 unfold padC;simp only[List.getD,List.getElem?_append];split
 ·
  rfl
 ·
  rename_i h
  rw[List.getElem?_eq_none (l:=cs) (by omega),List.getElem?_replicate];split<;>rfl
def Zac.added (d:Zac) (p':Zak) (cs:List Nat) (id v lo hi:Nat):Zac:=⟨d.vars,d.level,p',fun u=>if u=v then putF (d.tab v) (lo,hi) (some id) else d.tab u,cs.set id 0,d.dead+1⟩
theorem Zvp {d:Zac} {p':Zak} {id v lo hi j:Nat} (hl:Zby d (Zat d)) (hok:∀ i b,Zaa d i=some b->okE (Zaa d) b.lo/\okE (Zaa d) b.hi) (hr:Zvh d.pool p' id ⟨0,v,lo,hi,0⟩)
 (hid:id<(padC d.counts j).length) (hcl:(padC d.counts j).length<=1048578):Zjv d (d.added p' (padC d.counts j) id v lo hi) id v lo hi:=by
 have hnone:Zaa d id=none:=by unfold Zaa Zak.get;rw[if_neg (by rw[hr.none];simp)];rfl
 have hnodes:Zaa (d.added p' (padC d.counts j) id v lo hi)=addN (Zaa d) id ⟨v,lo,hi⟩:=by
  funext i;unfold Zaa Zac.added;dsimp only;rw[hr.get]
  by_cases e:i=id
  ·
   subst e;rw[if_pos rfl,Zbk];rfl
  ·
   rw[if_neg e,Zaw _ e]
 have htk:∀ i,p'.tk i=if i=id then true else d.pool.tk i:=fun i=>by
  have h1:=hr.get i;unfold Zak.get at h1
  by_cases e:i=id
  ·
   rw[if_pos e] at h1 ⊢;split at h1
   ·
    assumption
   ·
    cases h1
  ·
   rw[if_neg e] at h1 ⊢
   by_cases h2:p'.tk i=true<;>by_cases h3:d.pool.tk i=true<;>simp[h2,h3] at h1 ⊢
 have hext:Zat (d.added p' (padC d.counts j) id v lo hi)=fun i=>if i=id then 0 else Zat d i:=by
  funext i;unfold Zat;have h1:=hr.get i
  show (if p'.tk i=true then ((p'.nd i).refs:Int) else 0)=_
  rw[htk];unfold Zak.get at h1;rw[htk] at h1
  by_cases e:i=id
  ·
   rw[if_pos e] at h1;simp only[e,if_true] at h1 ⊢;have h2:=Option.some.inj h1;rw[h2];rfl
  ·
   rw[if_neg e] at h1;simp only[if_neg e] at h1 ⊢
   by_cases h3:d.pool.tk i=true
   ·
    rw[if_pos h3,if_pos h3] at h1;rw[if_pos h3,if_pos h3,Option.some.inj h1]
   ·
    rw[if_neg h3,if_neg h3]
 have hcnt:Zas (d.added p' (padC d.counts j) id v lo hi)=setC (Zas d) id 0:=by
  funext i;unfold Zas setC Zac.added;dsimp only
  by_cases e:i=id
  ·
   subst e;rw[if_pos rfl];simp[List.getD,hid]
  ·
   rw[if_neg e,<- Zzu d.counts j i];simp only[List.getD,List.getElem?_set,if_neg (Ne.symm e)]
 have hn0:id≠0:=by have:=hr.pos;omega
 refine⟨rfl,rfl,rfl,hnodes,hnone,hr.pos,hr.many,hr.room,hext,⟨?_,?_,fun i b hb=>?_⟩,by simpa [Zac.added] using hcl,hcnt⟩
 ·
  rw[hnodes,hcnt,hext]
  show Cnt p'.at_.length _ _ _
  refine Cnt.add (hl.cnt.weaken hr.le) hnone (fun i bi hb=>?_) hr.lt;have h1:=hok i bi hb;constructor
  ·
   rcases h1.1 with h2|⟨c,h2⟩
   ·
    omega
   ·
    intro e;rw[e,hnone] at h2;cases h2
  ·
   rcases h1.2 with h2|⟨c,h2⟩
   ·
    omega
   ·
    intro e;rw[e,hnone] at h2;cases h2
 ·
  rw[hnodes,hcnt]
  show ((d.dead+1:Nat):Int)=Zd2 p'.at_.length _ _
  rw[Zv9 hl.cnt.lt hr.le hnone hr.lt,<- hl.dead];omega
 ·
  rw[hnodes] at hb
  show i<((padC d.counts j).set id 0).length
  rw[List.length_set]
  by_cases e:i=id
  ·
   subst e;exact hid
  ·
   rw[Zaw _ e] at hb;have:=hl.has i b hb;rw[Zh3];omega
theorem Zjc {o:Own} {w:World} {sb:Nat} {d:Zac} {s:Za0} (h:Zal o w sb d s) (hlt:Zai o w) (hl:Zby d (Zat d)) (hok:∀ i b,Zaa d i=some b->okE (Zaa d) b.lo/\okE (Zaa d) b.hi)
 (v lo hi:Nat) (hv:v<d.vars.length) (ht:d.tab v (lo,hi)=none) (hcl:d.counts.length<=1048578) :
 Calls Tryz.prog 148 #[.pointer (some ⟨sb,0,none⟩),.int .i64 v,.int .i64 lo,.int .i64 hi] w (Yba o w sb d v lo hi):=by
 obtain⟨c0,c1,c2,c3,c4,f0⟩:=cells5 h.blk;have HTAKE:=Hd (Zp6 o s.pb d.pool ⟨0,v,lo,hi,0⟩ w h.pool hlt);have HRN:Hid (Zau ⟨0,v,lo,hi,0⟩=.agg #[.int .i64 0,.int .i64 v,.int .i64 lo,.int .i64 hi,.int .i64 0]):=rfl;have HH:=Hd h;have HLT:=Hd hlt;have HREL:=Hd (fun p' id j hr h1 h2=>Zvp (p':=p') (id:=id) (v:=v) (lo:=lo) (hi:=hi) (j:=j) hl hok hr h1 h2);have HREL2:Hid (d.dead<=1048577):=by
  show _<=_
  have h1:=hl.dead;have h2:=Zh8 (f:=dead1 (Zaa d) (Zas d)) (B:=1) d.pool.at_.length (fun i _=>by unfold dead1;split<;>first|omega|(split<;>omega));have h3:Zd2 d.pool.at_.length (Zaa d) (Zas d)=Zar d.pool.at_.length (dead1 (Zaa d) (Zas d)):=rfl;have h4:=h.pool.top;have h5:=h.pool.room;omega
 have HV:=Hd hv;have HT:=Hd ht;clear h hlt hl hok hv ht
 go_enter Tryz.func148,Tryz.ntmps148
 go_wp2_with fail;rw[<- HRN.out];refine HTAKE.out.mono ?_;rintro x w1 (⟨hm,rfl,hb⟩|⟨id,p',o1,rfl,hp,hr,hc,hl1⟩)
 ·
  have HM:=Hd hm;have HB:=Hd hb;clear hm hb;go_wp2_with fail
  go_ret2
  exact .inl ⟨HM.out,rfl,HB.out⟩
 ·
  have st1:=HH.out.setPool HLT.out hp hc;have hpl:=hp.tk_lt (i:=id) (by have h1:=hr.get id;unfold Zak.get at h1;rw[if_pos rfl] at h1;split at h1;(· assumption);cases h1);have hpt:=hp.top;have hpr:=hp.room;have HS1:Hid (AddS o w sb { d with pool:=p' } s.ts s.vt o1 w1):=⟨⟨s,st1,rfl,rfl⟩,hl1,hc.mono (fun r hr=>by simp[Zam,hr])⟩;have HR:=Hd hr;have hidl:id<=1048577:=by omega
  clear hp hr hc hl1 st1 HTAKE hpl hpt hpr c0 c1 c2 c3 c4 f0;go_wp2_with fail
  go_loopg [] (id+1-d.counts.length) (fun gk wx=>∃ (j:Nat) (o2:Own),AddS o w sb { d with pool:=p',counts:=padC d.counts j } s.ts s.vt o2 wx/\j+gk=id+1-d.counts.length)
  case atStart=>exact⟨0,o1,by have e:padC d.counts 0=d.counts:=by { simp[padC] };rw[e];exact HS1.out,by omega⟩
  case round =>
   obtain⟨j,o2,hS,hj⟩:=hrel;obtain⟨⟨s2,hst,hts,hvt⟩,hl2,hc2⟩:=hS;clear HS1;obtain⟨c0,c1,c2,c3,c4,f0⟩:=cells5 hst.blk;have lsb:sb<wr.heap.size:=Zab c0;have hclen:(padC d.counts j).length<=1048578:=by rw[Zh3];omega
   have HST:=Hd hst;have HL2:=Hd hl2;have HC2:=Hd hc2;have HTS:=Hd hts;have HVT:=Hd hvt
   by_cases hlt:(padC d.counts j).length<=id
   ·
    obtain⟨a,cap,hv,hcc,hcm,hnil,_⟩:=hst.counts.slice;have hvv:s2.vc=.slice a (padC d.counts j).length cap:=hv;rw[hvv] at c3;have HJ:=Hd hj;have HCO:RowR o2 wr .counts 3 1 (.slice a (padC d.counts j).length cap) (padC d.counts j).length ((padC d.counts j).map nat64):=by have:=hst.counts;rw[hvv] at this;exact this
    have hgk:0<gk:=by rw[Zh3] at hlt;omega
    have hle:((padC d.counts j).length:Int)<=id:=by omega
    obtain⟨cl,hcl'⟩:∃ n,n=(padC d.counts j).length:=⟨_,rfl⟩;rw[<- hcl'] at hclen hlt hle c3 HCO;have HCO2:=Hd HCO;have HCL:=Hd hcl';clear hst hl2 hc2 hts hvt hv hvv HCO hj hcl'
    go_wp2_with (at_builtin
                 refine Zdi 22 3 1 8 _ Tryz.underlying22 Zws rfl (by decide) rfl _ _ rfl rfl rfl rfl (by simp) rfl (fun u hu=>by simp at hu;subst hu;rfl) HCO2.out HL2.out (by omega) (by decide) ?_;intro g1 k1 w2 o3 hr1 hc1 hl1;obtain⟨q0,q1,q2,q3,q4,fq⟩:=cells5 ((hc1.same HL2.out HST.out.own (by simp)).trans HST.out.blk);have HR1:=Hd hr1;have HC1:=Hd hc1;have HL1:=Hd hl1;clear hr1 hc1 hl1 c0 c1 c2 c3 c4 f0)
    have hr2:=HR1.out;rw[show (padC d.counts j).map nat64++(#[Value.int .i64 0]:Array Value).toList=(padC d.counts (j+1)).map nat64 from by rw[Zxp,List.map_append];rfl] at hr2;have e1:cl+1=(padC d.counts (j+1)).length:=by rw[HCL.out,Zh3,Zh3];omega
    have HST3:=Hd (HST.out.setVc (cs:=padC d.counts (j+1)) HL2.out (by rw[<- e1];exact hr2) HC1.out);have HS3:Hid (AddS o w sb { d with pool:=p',counts:=padC d.counts (j+1) } s.ts s.vt o3 (w2.setCell ⟨sb,3,none⟩ (.slice (some ⟨g1,0,none⟩) (cl+1) k1))):=⟨⟨_,HST3.out,HTS.out,HVT.out⟩,HL1.out.mono (by simp[World.setCell]),(HC2.out.trans (HC1.out.mono (fun r hr=>by simp[Zam,hr]))).setCell (p:=⟨sb,3,none⟩) (HC1.out.ext _ _ HST.out.own) (.inl rfl) _⟩;clear hr2 e1
    go_roundg (gk-1)
    case measure=>omega
    case rel=>exact⟨j+1,o3,HS3.out,by have:=HJ.out;omega⟩
   ·
    have hidc:id<(padC d.counts j).length:=by omega
    have hle:(id:Int)<(padC d.counts j).length:=by omega
    obtain⟨gc,cap,hvc,hgo,hne,hlc,hcm,hfz,hcell⟩:=hst.countsAt hidc;have hvv:s2.vc=.slice (some ⟨gc,0,none⟩) (padC d.counts j).length cap:=hvc;rw[hvv] at c3;have hcx:=hcell _ hidc;have hfx:=hfz id;have hne':sb≠gc:=fun e=>hne e.symm
    have st3:=hst.setCount hvc hne id 0;have lt3:Zai o2 (wr.setCell ⟨gc,id,none⟩ (.int .i64 ((0:Nat):Int))):=hl2.mono (by simp[World.setCell]);have st4:=st3.setDead lt3 (d.dead+1);have lt4:Zai o2 ((wr.setCell ⟨gc,id,none⟩ (.int .i64 ((0:Nat):Int))).setCell ⟨sb,4,none⟩ (.int .i64 ((d.dead+1:Nat):Int))):=lt3.mono (by simp[World.setCell]);have ch4:=(hc2.setCell (p:=⟨gc,id,none⟩) hgo (by simp[Zam]) (.int .i64 ((0:Nat):Int))).setCell (p:=⟨sb,4,none⟩) hst.own (by simp[Zam]) (.int .i64 ((d.dead+1:Nat):Int));have hdb:d.dead<=1048577:=HREL2.out;have hclen':(padC d.counts j).length<=9223372036854775807:=by omega
    obtain⟨W4,hW4⟩:∃ W,W=(wr.setCell ⟨gc,id,none⟩ (.int .i64 ((0:Nat):Int))).setCell ⟨sb,4,none⟩ (.int .i64 ((d.dead+1:Nat):Int)):=⟨_,rfl⟩;rw[<- hW4] at st4 lt4 ch4;have HWE:Hid (W4=(wr.setCell ⟨gc,id,none⟩ (.int .i64 0)).setCell ⟨sb,4,none⟩ (.int .i64 ((d.dead:Int)+1))):=by
     show _=_
     rw[hW4,show ((d.dead+1:Nat):Int)=(d.dead:Int)+1 from by omega];rfl
    have HS4:=Hd st4;have HL4:=Hd lt4;have HC4:=Hd ch4;have HID:=Hd hidc;obtain⟨cl,hcl'⟩:∃ n,n=(padC d.counts j).length:=⟨_,rfl⟩;rw[<- hcl'] at hle c3 hclen hclen';have HCLE:Hid ((padC d.counts j).length<=1048578):=by show _<=_;omega
    obtain⟨dn,hdn⟩:∃ n,n=d.dead:=⟨_,rfl⟩;have c4':wr.cell? ⟨sb,4,none⟩=some (.int .i64 (dn:Nat)):=by rw[hdn];exact c4
    rw[<- hdn] at hdb HWE;clear hst hl2 hc2 hts hvt hvc hgo hne hlc hcm hfz hcell hvv st3 lt3 st4 lt4 ch4 hW4 hlt hidc c4 hcl' hdn HST HL2 HC2 hj;have hle2:¬ ((cl:Int)<=id):=by omega
    go_upto_region 8 with fail;rw[<- HWE.out];clear HWE c0 c1 c2 c3 c4' f0 hcx hfx hne' hle hle2 hdb hclen hclen';obtain⟨c0,c1,c2,c3,c4,f0⟩:=cells5 HS4.out.blk;obtain⟨gt,ct,hvt,cellv,hvl⟩:=HS4.out.tabAt (v:=v) HV.out;rw[hvt] at c2;have hti:=HS4.out.tab v (by rw[HS4.out.tlen];exact HV.out);have HPUT:=Hd (Zxw o2 v (s2.ts.getD v 0) (d.tab v) lo hi id W4 hti HL4.out HT.out);have hvl':(v:Int)<s2.ts.length:=by omega
    obtain⟨tv,htv⟩:∃ t,t=s2.ts.getD v 0:=⟨_,rfl⟩;rw[<- htv] at cellv HPUT;have HTV:=Hd htv;have htl:s2.ts.length<=9223372036854775807:=hvl.2;clear hti htv hvt hvl;go_wp2_with fail;refine HPUT.out.mono ?_;rintro x w5 ⟨rfl,ht5,hc5,hl5⟩;rw[HTV.out] at ht5;have HS5:=Hd (HS4.out.setTab HL4.out ht5 hc5);have HL5:=Hd hl5;have HC5:=Hd (HC4.out.trans (hc5.mono (fun r hr=>by simp[Zam,hr])));clear ht5 hc5 hl5 c0 c1 c2 c3 c4 f0 cellv;go_wp2_with fail
    go_ret2
    exact .inr ⟨id,d.added p' (padC d.counts j) id v lo hi,o2,rfl,⟨s2,HS5.out⟩,HL5.out,HREL.out p' id j HR.out HID.out HCLE.out,HC5.out⟩
open Go.RowKit
def levN (d:Zac) (v:Nat):Nat:=d.level.getD v 0
structure Zaj (d:Zac) (V:Nat->BF):Prop where
 dag:Dag d.vars.length (levN d) (Zaa d) V
 live:Zby d (Zat d)
 tab:∀ v,v<d.vars.length->∀ lo hi id,d.tab v (lo,hi)=some id↔Zaa d id=some ⟨v,lo,hi⟩
 clen:d.counts.length<=1048578
 small:d.vars.length<=64
 inv:∀ v,v<d.vars.length->d.vars.getD (levN d v) 0=v
 vlt:∀ i,i<d.vars.length->d.vars.getD i 0<d.vars.length/\levN d (d.vars.getD i 0)=i
structure Ext (d:Zac) (V:Nat->BF) (d':Zac) (V':Nat->BF):Prop where
 vars:d'.vars=d.vars
 level:d'.level=d.level
 room:d'.pool.room=d.pool.room
 nodes:∀ i b,Zaa d i=some b->Zaa d' i=some b
 val:∀ i,(i=0\/∃ b,Zaa d i=some b)->V' i=V i
 ext:∀ i b,Zaa d i=some b->Zat d' i=Zat d i
 ext0:∀ i,Zaa d i=none->Zat d' i=0
 many:d.pool.many<=d'.pool.many
theorem Zd5 {d:Zac} {i:Nat} (h:Zaa d i=none):Zat d i=0:=by unfold Zat;rw[Zga h];simp
theorem Ext.refl (d:Zac) (V:Nat->BF):Ext d V d V:=⟨rfl,rfl,rfl,fun _ _ h=>h,fun _ _=>rfl,fun _ _ _=>rfl,fun _ h=>Zd5 h,Nat.le_refl _⟩
theorem Ext.trans {d d' d'':Zac} {V V' V'':Nat->BF} (h:Ext d V d' V') (h':Ext d' V' d'' V''):Ext d V d'' V'':=by
 refine⟨h'.vars.trans h.vars,h'.level.trans h.level,h'.room.trans h.room,fun i b hb=>h'.nodes i b (h.nodes i b hb),fun i hi=>?_,fun i b hb=>?_,fun i hi=>?_,Nat.le_trans h.many h'.many⟩
 ·
  rw[h'.val i (hi.imp id fun⟨b,hb⟩=>⟨b,h.nodes i b hb⟩)];exact h.val i hi
 ·
  rw[h'.ext i b (h.nodes i b hb)];exact h.ext i b hb
 ·
  cases e:Zaa d' i with
  | none=>exact h'.ext0 i e
  | some b=>rw[h'.ext i b e];exact h.ext0 i hi
section
variable {d d':Zac} {V V':Nat->BF}
theorem Ext.ok (h:Ext d V d' V') {e:Nat} (he:okE (Zaa d) e):okE (Zaa d') e:=he.imp id fun⟨b,hb⟩=>⟨b,h.nodes _ b hb⟩
theorem Ext.ef (h:Ext d V d' V') {e:Nat} (he:okE (Zaa d) e):ef V' e=ef V e:=by
 funext ρ;unfold Go.Proofs.YtlgogjbkadckkaaGreat.ef;rw[h.val (e/2) he]
theorem Ext.lev (h:Ext d V d' V'):levN d'=levN d:=by funext v;unfold levN;rw[h.level]
theorem Ext.lvE (h:Ext d V d' V') {n:Nat} {e:Nat} (he:okE (Zaa d) e) (h0:Zaa d 0=none) (h0':Zaa d' 0=none):lvE n (levN d') (Zaa d') e=lvE n (levN d) (Zaa d) e:=by
 unfold Go.Proofs.YtlgogjbkadckkaaGreat.lvE;rw[h.lev];rcases he with he|⟨b,hb⟩
 ·
  rw[he,h0,h0']
 ·
  rw[hb,h.nodes _ b hb]
theorem Zvn {id v lo hi:Nat} (h:Zaj d V) (r:Zjv d d' id v lo hi) (hv:v<d.vars.length) (hlo:okE (Zaa d) lo) (hhi:okE (Zaa d) hi)
 (llo:levN d v<lvE d.vars.length (levN d) (Zaa d) lo) (lhi:levN d v<lvE d.vars.length (levN d) (Zaa d) hi) (hr:hi%2=0) (hne:lo≠hi) (ht:d.tab v (lo,hi)=none) :
 Zaj d' (addV V id ⟨v,lo,hi⟩)/\Ext d V d' (addV V id ⟨v,lo,hi⟩):=by
 have hnew:∀ i,Zaa d i≠some ⟨v,lo,hi⟩:=fun i e=>by rw[(h.tab v hv lo hi i).2 e] at ht;cases ht
 have hl:levN d'=levN d:=by funext u;unfold levN;rw[r.level]
 have hid:id≠0:=by have:=r.pos;omega
 refine⟨⟨?_,r.live,fun u hu lo' hi' i=>?_,r.clen,by rw[r.vars];exact h.small,?_,?_⟩,⟨r.vars,r.level,r.room,fun i b hb=>?_,fun i hi'=>?_,fun i b hb=>?_,fun i hi'=>?_,by rw[r.many];omega⟩⟩
 ·
  rw[r.vars,hl,r.nodes];exact h.dag.add r.none hid hv hlo hhi llo lhi hr hne hnew
 ·
  rw[r.vars] at hu;rw[r.tab,r.nodes];dsimp only
  by_cases e:u=v
  ·
   subst e;rw[if_pos rfl];unfold putF
   by_cases e2:(lo',hi')=(lo,hi)
   ·
    cases e2;rw[if_pos rfl];constructor
    ·
     intro e3;cases e3;rw[Zbk]
    ·
     intro e3
     by_cases e4:i=id
     ·
      rw[e4]
     ·
      rw[Zaw _ e4] at e3;exact absurd e3 (hnew i)
   ·
    rw[if_neg e2,h.tab u hu]
    by_cases e4:i=id
    ·
     subst e4;rw[Zbk,r.none];constructor
     ·
      intro e5;cases e5
     ·
      intro e5;cases e5;exact absurd rfl e2
    ·
     rw[Zaw _ e4]
  ·
   rw[if_neg e,h.tab u hu]
   by_cases e4:i=id
   ·
    subst e4;rw[Zbk,r.none];constructor
    ·
     intro e5;cases e5
    ·
     intro e5;cases e5;exact absurd rfl e
   ·
    rw[Zaw _ e4]
 ·
  rw[r.vars,hl];exact h.inv
 ·
  rw[r.vars,hl];exact h.vlt
 ·
  rw[r.nodes];exact Zmz r.none hb
 ·
  unfold addV;rw[if_neg];rintro rfl;rcases hi' with hi'|⟨b,hb⟩
  ·
   exact hid hi'
  ·
   rw[r.none] at hb;cases hb
 ·
  rw[r.ext];dsimp only;rw[if_neg];rintro rfl;rw[r.none] at hb;cases hb
 ·
  rw[r.ext];dsimp only;split
  ·
   rfl
  ·
   exact Zd5 hi'
theorem Zxk (h:Zaj d V) {id v lo hi:Nat} (hb:Zaa d id=some ⟨v,eflip lo (eneg hi),eflip hi (eneg hi)⟩):ef V (eflip (2*id) (eneg hi))=iteF v (ef V hi) (ef V lo):=by
 funext ρ;have h1:=h.dag.eqn id _ hb;have h2:ef V (2*id)=V id:=by
  funext ρ;have e1:2*id/2=id:=by omega
  have e2:2*id%2=0:=by omega
  simp[ef,e1,e2]
 rw[Zcy,h2,h1];simp only[iteF];rw[Zcy,Zcy];cases ρ v<;>cases eneg hi<;>simp
theorem Zl3 (hi:Nat):eflip hi (eneg hi)%2=0:=by
 unfold eflip eneg;rcases Nat.mod_two_eq_zero_or_one hi with h|h
 ·
  simp[h]
 ·
  simp[h,Zjl]
theorem Zjk {lo hi:Nat} {b:Bool} (h:lo≠hi):eflip lo b≠eflip hi b:=by
 unfold eflip;cases b
 ·
  simpa using h
 ·
  simp only[if_true];intro e;have:=congrArg enot e;rw[Zo6,Zo6] at this;exact h this
theorem Zdw {n:Nat} {lev:Nat->Nat} {N:Nat->Option BN} {e:Nat} {b:Bool}:lvE n lev N (eflip e b)=lvE n lev N e:=by unfold lvE;rw[Zcm]
end
def Zfr (d:Zac) (v:Int):Int:=if 0<=v/\v<d.level.length then (levN d v.toNat:Nat) else -1
theorem Zui (d:Zac) (v:Nat):Zfr d v=d.levelOf v:=by
 unfold Zfr Zac.levelOf levN
 by_cases h:v<d.level.length
 ·
  rw[if_pos ⟨by omega,by omega⟩,if_pos h];rfl
 ·
  rw[if_neg (by omega),if_neg h]
theorem Zkp {o:Own} {w:World} {sb:Nat} {d:Zac} {s:Za0} (h:Zal o w sb d s) (v:Int) (hv:v<0) :
 Calls Tryz.prog 115 #[.pointer (some ⟨s.lb,0,none⟩),.int .i64 v] w fun x w'=>x=.returned (.int .i64 (-1))/\w=w':=by
 clear h
 go_enter Tryz.func115,Tryz.ntmps115
 go_wp2_with fail;go_ret;exact⟨rfl,rfl⟩
theorem Zlq {o:Own} {w:World} {sb:Nat} {d:Zac} {s:Za0} (h:Zal o w sb d s) (v:Int) (hv:v<0) :
 Calls Tryz.prog 69 #[.pointer (some ⟨sb,0,none⟩),.int .i64 v] w fun x w'=>x=.returned (.int .i64 (-1))/\w=w':=by
 obtain⟨c0,c1,c2,c3,c4,f0⟩:=cells5 h.blk;have HC:=Hd (Zkp h v hv);clear h hv
 go_enter Tryz.func69,Tryz.ntmps69
 go_wp2_with fail;refine HC.out.mono ?_;rintro x w' ⟨rfl,rfl⟩;go_wp2_with fail;go_ret;exact⟨rfl,rfl⟩
theorem Zhe {o:Own} {w:World} {sb:Nat} {d:Zac} {s:Za0} (h:Zal o w sb d s) (v:Int) (hbig:d.level.length<1000000) :
 Calls Tryz.prog 69 #[.pointer (some ⟨sb,0,none⟩),.int .i64 v] w fun x w'=>x=.returned (.int .i64 (Zfr d v))/\w=w':=by
 by_cases h0:v<0
 ·
  have e:Zfr d v = -1:=by unfold Zfr;rw[if_neg (by omega)]
  rw[e];exact Zlq h v h0
 ·
  obtain⟨n,rfl⟩:=Int.eq_ofNat_of_zero_le (by omega:0<=v);have e:=Zui d n;rw[e];exact Zew h n hbig
open Go.RowKit
def Zve (o:Own) (w:World) (sb:Nat) (d:Zac) (V:Nat->BF) (v:Int) (lo hi:Nat) (e:Ending) (w':World):Prop :=
 (¬ (0<=v/\v<d.vars.length)/\e=.returned (.tuple #[.int .i64 0,.int .i64 9])/\Below w.heap.size w w') \/
 (0<=v/\v<d.vars.length/\(lvE d.vars.length (levN d) (Zaa d) lo<=levN d v.toNat\/lvE d.vars.length (levN d) (Zaa d) hi<=levN d v.toNat)/\e=.returned (.tuple #[.int .i64 0,.int .i64 10])/\Below w.heap.size w w') \/
 (d.pool.many=d.pool.room/\e=.returned (.tuple #[.int .i64 0,.int .i64 7])/\Below w.heap.size w w') \/
 (0<=v/\v<d.vars.length/\∃ r d' V' o',e=.returned (.tuple #[.int .i64 (r:Nat),.int .i64 0])/\Zaq o' w' sb d'/\Zai o' w'/\Zaj d' V'/\Ext d V d' V'/\okE (Zaa d') r /\
  ef V' r=iteF v.toNat (ef V hi) (ef V lo)/\levN d v.toNat<=lvE d.vars.length (levN d') (Zaa d') r/\d'.pool.many<=d.pool.many+1/\Chg Zam o o' w w')
theorem Yak {o:Own} {w:World} {sb:Nat} {d:Zac} {s:Za0} {V:Nat->BF} (h:Zal o w sb d s) (hk:Zaj d V) {f:Nat} (hf:okE (Zaa d) f) {lv:Nat} (hl:lv<d.vars.length) :
 (decide (enode f=0)||(d.pool.tk (enode f)&&decide ((lv:Int)<d.levelOf (d.pool.has (enode f)).v)))=decide (lv<lvE d.vars.length (levN d) (Zaa d) f):=by
 unfold lvE;rcases hf with h0|⟨b,hb⟩
 ·
  have e:enode f=0:=h0;rw[h0,hk.dag.none0,e];simp[hl]
 ·
  have hn:=Zav (i:=enode f) hb;have e0:enode f≠0:=by have:=(h.tk_lt (i:=enode f) hb).1;omega
  rw[hb,hn.1];have hv:(d.pool.has (enode f)).v=b.v:=by rw[<- hn.2.2];rfl
  have hbv:=hk.dag.var _ _ hb;rw[hv];unfold Zac.levelOf;rw[if_pos (by rw[h.len];exact hbv)];simp[e0,levN]
theorem Yc6 {d:Zac} {f:Nat} (hf:okE (Zaa d) f):(decide (enode f=0)||d.pool.tk (enode f))=true:=by
 rcases hf with h0|⟨b,hb⟩
 ·
  have e:enode f=0:=h0;simp[e]
 ·
  rw[(Zav (i:=enode f) hb).1];simp
theorem Ydb {o:Own} {w:World} {sb:Nat} {d:Zac} {s:Za0} {V:Nat->BF} (h:Zal o w sb d s) (hk:Zaj d V) (v:Int) (lo hi:Nat) (hv:¬ (0<=v/\v<d.vars.length)) :
 Calls Tryz.prog 116 #[.pointer (some ⟨sb,0,none⟩),.int .i64 v,.int .i64 lo,.int .i64 hi] w (Zve o w sb d V v lo hi):=by
 have HLV:=Hd (Zhe h v (by rw[h.len];have:=hk.small;omega));have e:Zfr d v = -1:=by unfold Zfr;rw[if_neg (by rw[h.len];exact hv)]
 rw[e] at HLV;have HV:=Hd hv;clear h hk e hv
 go_enter Tryz.func116,Tryz.ntmps116
 go_wp2_with fail;refine HLV.out.mono ?_;rintro x w' ⟨rfl,rfl⟩;go_wp2_with fail
 go_ret2
 exact .inl ⟨HV.out,rfl,Below.refl _ _⟩
section
variable {o:Own} {w:World} {sb:Nat} {d:Zac} {s:Za0} {V:Nat->BF}
theorem Yda (h:Zal o w sb d s) (hlt:Zai o w) (hk:Zaj d V) (v lo hi:Nat) (hv:v<d.vars.length) (hlo:okE (Zaa d) lo) (hhi:okE (Zaa d) hi) {P:Ending->World->Prop}
 (h1:¬ (levN d v<lvE d.vars.length (levN d) (Zaa d) lo/\levN d v<lvE d.vars.length (levN d) (Zaa d) hi)->∀ W,Below w.heap.size w W->P (.returned (.tuple #[.int .i64 0,.int .i64 10])) W)
 (h2:levN d v<lvE d.vars.length (levN d) (Zaa d) lo->levN d v<lvE d.vars.length (levN d) (Zaa d) hi->(lo=hi->∀ W,Below w.heap.size w W->P (.returned (.tuple #[.int .i64 (lo:Nat),.int .i64 0])) W) /\
  (lo≠hi->(∀ id,d.tab v (eflip lo (eneg hi),eflip hi (eneg hi))=some id->∀ W,Below w.heap.size w W->P (.returned (.tuple #[.int .i64 (eflip (2*id) (eneg hi):Nat),.int .i64 0])) W) /\
   (d.tab v (eflip lo (eneg hi),eflip hi (eneg hi))=none->(∀ W,Below w.heap.size w W->d.pool.many=d.pool.room->P (.returned (.tuple #[.int .i64 0,.int .i64 7])) W) /\
    ∀ W W' id d' o',Below w.heap.size w W->Zaq o' W' sb d'->Zai o' W'->Zjv d d' id v (eflip lo (eneg hi)) (eflip hi (eneg hi))->Chg Zam o o' W W'->P (.returned (.tuple #[.int .i64 (eflip (2*id) (eneg hi):Nat),.int .i64 0])) W'))) :
 Calls Tryz.prog 116 #[.pointer (some ⟨sb,0,none⟩),.int .i64 v,.int .i64 lo,.int .i64 hi] w P:=by
 have hll:levN d v<d.vars.length:=hk.dag.lt v hv;have hlol:=h.edge_lt hlo;have hhil:=h.edge_lt hhi;have hlom:lo<eMax:=by unfold eMax;omega
 have hhim:hi<eMax:=by unfold eMax;omega
 have hlen:d.level.length<1000000:=by rw[h.len];have:=hk.small;omega
 obtain⟨bl,hbl⟩:∃ b,b=decide (levN d v<lvE d.vars.length (levN d) (Zaa d) lo):=⟨_,rfl⟩;obtain⟨bh,hbh⟩:∃ b,b=decide (levN d v<lvE d.vars.length (levN d) (Zaa d) hi):=⟨_,rfl⟩;have HLV:Hid (∀ W:World,Below w.heap.size w W->Calls Tryz.prog 69 #[.pointer (some ⟨sb,0,none⟩),.int .i64 v] W fun x w'=>x=.returned (.int .i64 (levN d v:Nat))/\W=w'):=fun W hb=>by
  have h1:=Zew (h.below hlt hb) v hlen;unfold Zac.levelOf at h1;rw[if_pos (by rw[h.len];exact hv)] at h1;exact h1
 have HIS:Hid (∀ W (f:Nat),Below w.heap.size w W->okE (Zaa d) f->Calls Tryz.prog 98 #[.pointer (some ⟨sb,0,none⟩),.int .i64 f] W fun x w'=>x=.returned (.bool true)/\Below W.heap.size W w'):=fun W f hb hf=>by
  have hfl:=h.edge_lt hf;have h1:=Zdn (h.below hlt hb) (hlt.mono hb.size) f (by unfold eMax;omega);rw[Yc6 hf] at h1;exact h1
 have HUN:Hid (∀ W (f:Nat),Below w.heap.size w W->okE (Zaa d) f->Calls Tryz.prog 145 #[.pointer (some ⟨sb,0,none⟩),.int .i64 f,.int .i64 (levN d v:Nat)] W fun x w'=>x=.returned (.bool (decide (levN d v<lvE d.vars.length (levN d) (Zaa d) f)))/\Below W.heap.size W w'):=fun W f hb hf=>by
  have hfl:=h.edge_lt hf;have h1:=Zls (h.below hlt hb) (hlt.mono hb.size) f (by unfold eMax;omega) (levN d v:Nat) hlen;rw[Yak h hk hf hll] at h1;exact h1
 have HUL:=Hd fun W hb=>HUN.out W lo hb hlo
 have HUH:=Hd fun W hb=>HUN.out W hi hb hhi
 have HISL:=Hd fun W hb=>HIS.out W lo hb hlo
 have HISH:=Hd fun W hb=>HIS.out W hi hb hhi
 rw[<- hbl] at HUL;rw[<- hbh] at HUH;have HP1:Hid ((bl&&bh)=false->∀ W,Below w.heap.size w W->P (.returned (.tuple #[.int .i64 0,.int .i64 10])) W):=Hd fun e=>h1 fun c=>by
  rw[hbl,hbh,decide_eq_true c.1,decide_eq_true c.2] at e;cases e
 have HP2:Hid (bl=true->bh=true->_):=Hd fun e1 e2=>h2 (of_decide_eq_true (by rw[<- hbl];exact e1)) (of_decide_eq_true (by rw[<- hbh];exact e2))
 obtain⟨l,hl⟩:∃ l,l=levN d v:=⟨_,rfl⟩;rw[<- hl] at HLV HUL HUH;have hl0:¬ ((l:Nat):Int)<0:=by omega
 have HH:=Hd h;have HLT:=Hd hlt;have HV:=Hd hv;have HK:=Hd hk;clear h hlt hk hv hlo hhi hll hlol hhil hlen hl h1 h2 hbl hbh HUN HIS
 go_enter Tryz.func116,Tryz.ntmps116
 go_wp2_with fail;refine(HLV.out _ (Below.refl _ _)).mono ?_;rintro x w' ⟨rfl,rfl⟩;go_wp2_with fail;refine(HISL.out _ (Below.refl _ _)).mono ?_;rintro x w1 ⟨rfl,hb1⟩;have HB1:=Hd hb1;clear hb1;go_wp2_with fail;refine(HISH.out _ HB1.out).mono ?_;rintro x w2 ⟨rfl,hb2⟩;have HB2:=Hd (HB1.out.trans (hb2.mono HB1.out.size));clear hb2;go_wp2_with fail;refine(HLV.out _ HB2.out).mono ?_;rintro x w' ⟨rfl,rfl⟩;go_wp2_with fail;refine(HUL.out _ HB2.out).mono ?_;rintro x w3 ⟨rfl,hb3⟩;have HB3:=Hd (HB2.out.trans (hb3.mono HB2.out.size));clear hb3;cases bl with
 | false =>
   go_wp2_with fail;have HZ:=Hd (HP1.out (by first|rfl|trivial) _ HB3.out)
   first|exact HZ.out|exact bodyPost_ret (results_tmp2 rfl _ _ _) rfl HZ.out
 | true =>
   go_wp2_with fail;refine(HLV.out _ HB3.out).mono ?_;rintro x w' ⟨rfl,rfl⟩;go_wp2_with fail;refine(HUH.out _ HB3.out).mono ?_;rintro x w4 ⟨rfl,hb4⟩;have HB4:=Hd (HB3.out.trans (hb4.mono HB3.out.size));clear hb4;cases bh with
   | false =>
     go_wp2_with fail;have HZ:=Hd (HP1.out (by first|rfl|trivial) _ HB4.out)
     first|exact HZ.out|exact bodyPost_ret (results_tmp2 rfl _ _ _) rfl HZ.out
   | true =>
     have HPE:=Hd (HP2.out (by first|rfl|trivial) (by first|rfl|trivial)).1;have HPN:=Hd (HP2.out (by first|rfl|trivial) (by first|rfl|trivial)).2;clear HP1 HP2 HLV HISL HISH HUL HUH
     by_cases he:lo=hi
     ·
      subst he;have HF:=Hd (HPE.out rfl _ HB4.out);clear HPN HPE;go_wp2_with fail
      first|exact HF.out|exact bodyPost_ret (results_tmp2 rfl _ _ _) rfl HF.out
     ·
      have HPF:=Hd (HPN.out he).1;have HPW:=Hd (HPN.out he).2;have hnei:((lo:Int) == hi)=false:=by simp;omega
      have HNORM:=Hd (fun W=>Znn lo hi W hlom hhim);have HOF:=Hd (fun id W (hh:id<2305843009213693952)=>Zxn id (eneg hi) W hh);obtain⟨gt,ct,hvt,cellv,hvl,htl⟩:=(HH.out.below HLT.out HB4.out).tabAt HV.out;obtain⟨c0,c1,c2,c3,c4,f0⟩:=cells5 (HH.out.below HLT.out HB4.out).blk;rw[hvt] at c2;have hvl':(v:Int)<s.ts.length:=by omega
      have hti:=(HH.out.below HLT.out HB4.out).tab v hvl;clear hvt HPN HPE;cases ht:d.tab v (eflip lo (eneg hi),eflip hi (eneg hi)) with
      | some id =>
        have hidl:=(HH.out.tk_lt ((HK.out.tab v HV.out _ _ id).1 ht)).2;have HFD:=Hd (Zna o v (s.ts.getD v 0) (d.tab v) (eflip lo (eneg hi)) (eflip hi (eneg hi)) id _ hti ht);have HF:=Hd (HPF.out id ht _ HB4.out);have HOI:=Hd (fun W=>HOF.out id W (by omega));obtain⟨tv,htv⟩:∃ t,t=s.ts.getD v 0:=⟨_,rfl⟩;rw[<- htv] at cellv HFD;obtain⟨lo2,hlo2⟩:∃ x,x=eflip lo (eneg hi):=⟨_,rfl⟩;obtain⟨hi2,hhi2⟩:∃ x,x=eflip hi (eneg hi):=⟨_,rfl⟩;obtain⟨ng,hng⟩:∃ x,x=eneg hi:=⟨_,rfl⟩;rw[<- hlo2,<- hhi2] at HNORM HFD;rw[<- hng] at HNORM HOI HF;clear hti htv ht hidl HOF HPF HPW hlo2 hhi2 hng hlom hhim he;go_wp2_with fail;refine(HNORM.out _).mono ?_;rintro x w' ⟨rfl,rfl⟩;go_wp2_with fail;refine HFD.out.mono ?_;rintro x w' ⟨rfl,rfl⟩;go_wp2_with fail;refine(HOI.out _).mono ?_;rintro x w' ⟨rfl,rfl⟩;go_wp2_with fail
        first|exact HF.out|exact bodyPost_ret (results_tmp2 rfl _ _ _) rfl HF.out
      | none =>
        have HFD:=Hd (Zre o v (s.ts.getD v 0) (d.tab v) (eflip lo (eneg hi)) (eflip hi (eneg hi)) _ hti ht);have HADD:=Hd (Zjc (HH.out.below HLT.out HB4.out) (HLT.out.mono HB4.out.size) HK.out.live (fun i b hb=>⟨HK.out.dag.okLo i b hb,HK.out.dag.okHi i b hb⟩) v (eflip lo (eneg hi)) (eflip hi (eneg hi)) HV.out ht HK.out.clen);have HFU:=Hd (HPW.out ht).1;have HPO:=Hd (HPW.out ht).2;obtain⟨tv,htv⟩:∃ t,t=s.ts.getD v 0:=⟨_,rfl⟩;rw[<- htv] at cellv HFD;obtain⟨lo2,hlo2⟩:∃ x,x=eflip lo (eneg hi):=⟨_,rfl⟩;obtain⟨hi2,hhi2⟩:∃ x,x=eflip hi (eneg hi):=⟨_,rfl⟩;obtain⟨ng,hng⟩:∃ x,x=eneg hi:=⟨_,rfl⟩;rw[<- hlo2,<- hhi2] at HNORM HFD HADD HPO;rw[<- hng] at HNORM HOF HPO;clear hti htv ht HPF HPW hlo2 hhi2 hng hlom hhim he;go_wp2_with fail;refine(HNORM.out _).mono ?_;rintro x w' ⟨rfl,rfl⟩;go_wp2_with fail;refine HFD.out.mono ?_;rintro x w' ⟨rfl,rfl⟩;go_wp2_with fail;refine HADD.out.mono ?_;rintro x w6 (⟨hm,rfl,hb6⟩|⟨id,d',o',rfl,hs,hl6,hr,hc⟩)
        ·
         have HF:=Hd (HFU.out _ (HB4.out.trans (hb6.mono HB4.out.size)) hm);clear hm hb6 c0 c1 c2 c3 c4 f0 cellv;go_wp2_with fail
         first|exact HF.out|exact bodyPost_ret (results_tmp2 rfl _ _ _) rfl HF.out
        ·
         have HF:=Hd (HPO.out _ _ id d' o' HB4.out hs hl6 hr hc);have hidl:id<2305843009213693952:=by
          obtain⟨s',hs'⟩:=hs;have:=hs'.tk_lt (i:=id) (b:=⟨v,lo2,hi2⟩) (by rw[hr.nodes,Zbk]);omega
         clear hs hl6 hr hc c0 c1 c2 c3 c4 f0 cellv;go_wp2_with fail;refine(HOF.out _ _ hidl).mono ?_;rintro x w' ⟨rfl,rfl⟩;go_wp2_with fail
         first|exact HF.out|exact bodyPost_ret (results_tmp2 rfl _ _ _) rfl HF.out
theorem Zrv (h:Zaq o w sb d) (hlt:Zai o w) (hk:Zaj d V) (v:Int) (lo hi:Nat) (hlo:okE (Zaa d) lo) (hhi:okE (Zaa d) hi) :
 Calls Tryz.prog 116 #[.pointer (some ⟨sb,0,none⟩),.int .i64 v,.int .i64 lo,.int .i64 hi] w (Zve o w sb d V v lo hi):=by
 obtain⟨s,h⟩:=h
 by_cases hvr:0<=v/\v<d.vars.length
 ·
  obtain⟨n,rfl⟩:=Int.eq_ofNat_of_zero_le hvr.1;have hv:n<d.vars.length:=by omega
  refine Yda h hlt hk n lo hi hv hlo hhi (fun c W hb=>.inr (.inl ⟨by omega,by omega,by rw[Int.toNat_natCast];omega,rfl,hb⟩)) fun hgl hgh=>⟨fun he W hb=>?_,fun he=>⟨fun id hid W hb=>?_,fun hid=>⟨fun W hb hm=>.inr (.inr (.inl ⟨hm,rfl,hb⟩)),fun W W' id d' o' hb hs hl hr hc=>?_⟩⟩⟩
  ·
   subst he;exact .inr (.inr (.inr ⟨by omega,by omega,lo,d,V,o,rfl,⟨s,h.below hlt hb⟩,hlt.mono hb.size,hk,Ext.refl d V,hlo,by funext ρ;simp[iteF],Nat.le_of_lt hgl,by omega,Chg.of_below hb _ _⟩))
  ·
   have hnode:=(hk.tab n hv _ _ id).1 hid
   exact .inr (.inr (.inr ⟨by omega,by omega,_,d,V,o,rfl,⟨s,h.below hlt hb⟩,hlt.mono hb.size,hk,Ext.refl d V,Zdx (Zgb hnode),
    Zxk hk hnode,by rw[Zdw];unfold lvE;rw[show 2*id/2=id from by omega,hnode];exact Nat.le_refl _,by omega,Chg.of_below hb _ _⟩))
  ·
   obtain⟨h1,h2⟩:=Zvn hk hr hv (Zdx hlo) (Zdx hhi) (by rw[Zdw];exact hgl) (by rw[Zdw];exact hgh) (Zl3 hi) (Zjk he) hid;have hnode:Zaa d' id=some ⟨n,eflip lo (eneg hi),eflip hi (eneg hi)⟩:=by rw[hr.nodes,Zbk]
   refine .inr (.inr (.inr ⟨by omega,by omega,_,d',_,o',rfl,hs,hl,h1,h2,Zdx (Zgb hnode),?_,?_,by rw[hr.many];omega,(Chg.of_below hb _ _).trans hc⟩))
   ·
    rw[Zxk h1 hnode,h2.ef hlo,h2.ef hhi];rfl
   ·
    rw[Zdw,h2.lev];unfold lvE;rw[show 2*id/2=id from by omega,hnode];exact Nat.le_refl _
 ·
  exact Ydb h hk v lo hi hvr
end
open Go.RowKit
theorem Zus {o:Own} {w w':World} {v:Value} {zs:List Int} (h:OwnI w' w.heap.size v zs) (hb:Below w.heap.size w w') (hlt:Zai o w) (r:Role) :
 ∃ o',RowR o' w' r 3 1 v zs.length (Za7 zs)/\Chg (· = r) o o' w w'/\Zai o' w':=by
 obtain⟨hl,h2⟩:=h;rcases h2 with ⟨h1,h0⟩|⟨g,cap,cur,h1,h2,h3,h4,h5,h6,h7⟩
 ·
  exact⟨o,⟨hl,.inl ⟨h1,h0⟩⟩,Chg.of_below hb _ _,hlt.mono hb.size⟩
 ·
  have hg:g<w'.heap.size:=(Array.getElem?_eq_some_iff.1 h3).1;refine⟨Zcs o g r,⟨hl,.inr ⟨g,cap,cur,h1,Za5 _ _ _,h3,h4,h5,by omega,h7⟩⟩,⟨hb.os,hb.tape,hb.output,hb.size,fun k hk _=>hb.block k hk,fun k q hq=>Zcv hlt h2 hq,fun k hk=>?_⟩,fun k q hq=>?_⟩
  ·
   by_cases e:k=g
   ·
    subst e;exact⟨h2,r,Za5 _ _ _,rfl⟩
   ·
    exact absurd (by simp[Zcs,e]) hk
  ·
   by_cases e:k=g
   ·
    subst e;exact hg
   ·
    simp only[Zcs,if_neg e] at hq;have:=hlt k q hq;have:=hb.size;omega
theorem Zph (o:Own) (n:Nat) (hn:n<=64) (r:Role) (w:World) (hlt:Zai o w) :
 Calls Tryz.prog 77 #[.int .i64 n] w fun e w'=>∃ v o',e=.returned v/\RowR o' w' r 3 1 v n ((List.range n).map nat64)/\Chg (· = r) o o' w w'/\Zai o' w' :=
 (Znv n w).mono fun e w' ⟨v,h1,h2,h3⟩=>by
  obtain⟨o',a,b,c⟩:=Zus h2 h3 hlt r;have e1:Zpg n=iota n:=by unfold Zpg;congr 1;omega
  have e2:Za7 (iota n)=(List.range n).map nat64:=by simp[Za7,iota,nat64]
  rw[e1,Zfg,e2] at a;exact⟨v,o',h1,a,b,c⟩
def store0 (n room:Nat):Zac:=⟨List.range n,List.range n,pool0 room,fun _ _=>none,[],0⟩
structure NewS (o:Own) (w:World) (n room sb:Nat) (s:Za0) (j:Nat) (o1:Own) (wx:World):Prop where
 own:o1 sb=some .store
 ownl:o1 s.lb=some .levels
 blk:wx.heap[sb]?=some (.cells #[.pointer (some ⟨s.lb,0,none⟩),.pointer (some ⟨s.pb,0,none⟩),s.vt,.slice none 0 0,.int .i64 0] 143 (0,0))
 lev:wx.heap[s.lb]?=some (.cells #[s.vv,s.vl] 140 (0,0))
 vars:RowR o1 wx .vars 3 1 s.vv n ((List.range n).map nat64)
 level:RowR o1 wx .level 3 1 s.vl n ((List.range n).map nat64)
 pool:Zao o1 wx s.pb (pool0 room)
 tabs:RowR o1 wx .tabs 144 1 s.vt j (s.ts.map ptrV)
 tl:s.ts.length=j
 tab:∀ v,v<j->Zc0 o1 wx v (s.ts.getD v 0) (fun _=>none)
 chg:Chg Zam o o1 w wx
 lt:Zai o1 wx
 ge:w.heap.size<=sb
theorem NewS.done {o o1:Own} {w wx:World} {n room sb:Nat} {s:Za0} (h:NewS o w n room sb s n o1 wx):Zaq o1 wx sb (store0 n room) :=
 ⟨{ s with vc:=.slice none 0 0 },h.own,h.ownl,h.blk,h.lev,by simpa [store0] using h.vars,by simpa [store0] using h.level,h.pool,by rw[h.tl];exact h.tabs,fun v hv=>h.tab v (by rw[<- h.tl];exact hv),RowR.nil _ _ _ _ _,rfl,by simp[store0,h.tl]⟩
theorem NewS.grown {o o1 o2 o3:Own} {w wx wy wz:World} {n room sb:Nat} {s:Za0} {j t g cap:Nat} (h:NewS o w n room sb s j o1 wx) (ht:Zc0 o2 wy j t (fun _=>none)) (hc:Chg (fun r=>r=.tab j\/r=.tmap j) o1 o2 wx wy) (hl:Zai o2 wy)
 (hr:RowR o3 wz .tabs 144 1 (.slice (some ⟨g,0,none⟩) (j+1) cap) (j+1) (s.ts.map ptrV++[ptrV t])) (hc2:Chg (· = .tabs) o2 o3 wy wz) (hl2:Zai o3 wz) :
 NewS o w n room sb { s with vt:=.slice (some ⟨g,0,none⟩) (j+1) cap,ts:=s.ts++[t] } (j+1) o3 (wz.setCell ⟨sb,2,none⟩ (.slice (some ⟨g,0,none⟩) (j+1) cap)):=by
 have hc':Chg (fun r=>r=.tab j\/r=.tmap j\/r=.tabs) o1 o3 wx wz:=(hc.mono fun r e=>by rcases e with e|e;exact .inl e;exact .inr (.inl e)).trans (hc2.mono fun r e=>.inr (.inr e));have hos:=hc'.ext _ _ h.own;have ne:∀ {a r},o3 a=some r->r ≠ .store->a≠sb:=fun ha hr e=>by subst e;rw[ha] at hos;cases hos;exact hr rfl
 have hol:=hc'.ext _ _ h.ownl;have row:∀ {r e k v m xs},RowR o1 wx r e k v m xs->r ≠ .store->¬ (r=.tab j\/r=.tmap j\/r=.tabs)->RowR o3 (wz.setCell ⟨sb,2,none⟩ (.slice (some ⟨g,0,none⟩) (j+1) cap)) r e k v m xs:=fun hr h1 h2 =>
  (hr.chg hc' h.lt h2).setCell_other (p:=⟨sb,2,none⟩) (by rw[hos];intro e;cases e;exact h1 rfl) _
 have ctab:∀ v t f,Zc0 o3 wz v t f->Zc0 o3 (wz.setCell ⟨sb,2,none⟩ (.slice (some ⟨g,0,none⟩) (j+1) cap)) v t f:=fun v t f hT =>
  hT.keep (fun q r hq hr'=>Zad (ne hq (by rintro rfl;rcases hr' with e|e<;>cases e)) _) (fun _ _ h=>h)
 refine⟨hos,hol,Zae ((hc'.same h.lt h.own (by simp)).trans h.blk) _,(Zad (ne hol (by simp)) _).trans ((hc'.same h.lt h.ownl (by simp)).trans h.lev),row h.vars (by simp) (by simp),row h.level (by simp) (by simp),?_,?_,by simp[h.tl],fun v hv=>?_,?_,hl2.mono (by simp[World.setCell]),h.ge⟩
 ·
  have hp:=h.pool.chg hc' h.lt (by simp) (by simp) (by simp) (by simp);exact hp.keep (fun q r hq hr'=>Zad (ne hq (by rintro rfl;rcases hr' with e|e|e|e<;>cases e)) _) (fun _ _ h=>h)
 ·
  have:=hr.setCell_other (p:=⟨sb,2,none⟩) (by rw[hos];simp) (.slice (some ⟨g,0,none⟩) (j+1) cap);simpa using this
 ·
  dsimp only;refine ctab _ _ _ ?_
  by_cases e:v=j
  ·
   subst e;have e2:(s.ts++[t]).getD v 0=t:=by simp[List.getD,h.tl]
   rw[e2];exact ht.chg hc2 hl (by simp) (by simp)
  ·
   have e2:(s.ts++[t]).getD v 0=s.ts.getD v 0:=by
    have:=h.tl;simp[List.getD,List.getElem?_append_left (show v<s.ts.length by omega)]
   rw[e2];exact(h.tab v (by omega)).chg hc' h.lt (by simp[e]) (by simp[e])
 ·
  exact(h.chg.trans (hc'.mono fun r e=>by rcases e with rfl|rfl|rfl<;>simp[Zam])).setCell (p:=⟨sb,2,none⟩) hos (by simp[Zam]) _
theorem Zue:(Tryz.prog.info? 144).map (fun i=>(i.zero,i.size,i.bytes))=some (some (.pointer none),1,8):=by kernel_rfl
theorem Zxi (o:Own) (n room:Nat) (w:World) (hlt:Zai o w) (hn:n<=64) (h1:1<=room) (h2:room<=1048576) :
 Calls Tryz.prog 33 #[.int .i64 n,.int .i64 room] w fun x w'=>∃ sb o',x=.returned (.tuple #[.pointer (some ⟨sb,0,none⟩),.int .i64 0])/\Zaq o' w' sb (store0 n room)/\Chg Zam o o' w w'/\Zai o' w'/\w.heap.size<=sb:=by
 have hn':(n:Int)<=64:=by omega
 have hn0:(0:Int)<=n:=by omega
 have HP:=Hd (Zzn o room w hlt h1 h2);clear hlt h1 h2
 go_enter Tryz.func33,Tryz.ntmps33
 go_wp2_with fail;refine HP.out.mono ?_;rintro x w1 ⟨pb,o1,rfl,hp1,hc1,hl1,hpb⟩;have HI1:=Hd (Zph o1 n hn .vars w1 hl1);have HL1:=Hd hl1;have HP1:=Hd hp1;have HC1:=Hd hc1;clear hp1 hc1 hl1;go_wp2_with fail;refine HI1.out.mono ?_;rintro x w2 ⟨vv,o2,rfl,hr2,hc2,hl2⟩;have HI2:=Hd (Zph o2 n hn .level w2 hl2);have HR2:=Hd hr2;have HC2:=Hd hc2;have HL2:=Hd hl2;clear hr2 hc2 hl2;go_wp2_with fail;refine HI2.out.mono ?_;rintro x w3 ⟨vl,o3,rfl,hr3,hc3,hl3⟩;obtain⟨av,cv,rfl,_⟩:=HR2.out.slice;obtain⟨al,cl,rfl,_⟩:=hr3.slice;have HR3:=Hd hr3;have HC3:=Hd hc3;have HL3:=Hd hl3;clear hr3 hc3 hl3;go_upto_region 7 with fail;obtain⟨wl,hwl⟩:∃ wl,wl=w3.alloc (.cells #[.slice av n cv,.slice al n cl] 140):=⟨_,rfl⟩;obtain⟨ws,hws⟩:∃ ws,ws=wl.alloc (.cells #[.pointer (some ⟨w3.heap.size,0,none⟩),.pointer (some ⟨pb,0,none⟩),.slice none 0 0,.slice none 0 0,.int .i64 0] 143):=⟨_,rfl⟩;have hz1:wl.heap.size=w3.heap.size+1:=by rw[hwl];simp
 have hS0:NewS o w n room (w3.heap.size+1) ⟨w3.heap.size,pb,.slice av n cv,.slice al n cl,.slice none 0 0,.slice none 0 0,[]⟩ 0 (Zcs (Zcs o3 w3.heap.size .levels) (w3.heap.size+1) .store) ws:=by
  have c1:=(Chg.refl Zam o3 w3).allocR (r:=.levels) HL3.out (.cells #[.slice av n cv,.slice al n cl] 140) (by simp[Zam]);have l1:=HL3.out.allocR (.cells #[.slice av n cv,.slice al n cl] 140) .levels;rw[<- hwl] at c1 l1;have c2:=c1.allocR (r:=.store) l1 (.cells #[.pointer (some ⟨w3.heap.size,0,none⟩),.pointer (some ⟨pb,0,none⟩),.slice none 0 0,.slice none 0 0,.int .i64 0] 143) (by simp[Zam]);have l2:=l1.allocR (.cells #[.pointer (some ⟨w3.heap.size,0,none⟩),.pointer (some ⟨pb,0,none⟩),.slice none 0 0,.slice none 0 0,.int .i64 0] 143) .store;rw[<- hws,hz1] at c2 l2;have hb:Below w3.heap.size w3 ws:=by rw[hws,hwl];exact(Zaf w3 _).alloc (by simp) _
  have hr2:=((HR2.out.chg HC3.out HL2.out (by simp)).below HL3.out hb).keep (o':=Zcs (Zcs o3 w3.heap.size .levels) (w3.heap.size+1) .store) (fun _ _=>rfl) (fun g hg=>c2.ext g _ hg);have hr3:=(HR3.out.below HL3.out hb).keep (o':=Zcs (Zcs o3 w3.heap.size .levels) (w3.heap.size+1) .store) (fun _ _=>rfl) (fun g hg=>c2.ext g _ hg);have hcc:=(HC1.out.mono (R':=Zam) (fun r hr=>by rcases hr with rfl|rfl|rfl<;>simp[Zam,Zfb])).trans ((HC2.out.mono (R':=Zam) (fun r hr=>by subst hr;simp[Zam])).trans ((HC3.out.mono (R':=Zam) (fun r hr=>by subst hr;simp[Zam])).trans c2));have hp3:=(HP1.out.chg (HC2.out) HL1.out (by simp) (by simp) (by simp) (by simp)).chg HC3.out HL2.out (by simp) (by simp) (by simp) (by simp);have hp:=(hp3.below hb HL3.out).keep (o':=Zcs (Zcs o3 w3.heap.size .levels) (w3.heap.size+1) .store) (fun _ _ _ _=>rfl) (fun g r hg=>c2.ext g r hg);refine⟨Za5 _ _ _,Zcv l1 (by omega) (Za5 _ _ _),?_,?_,hr2,hr3,hp,RowR.nil _ _ _ _ _,rfl,fun v hv=>absurd hv (by omega),hcc,l2,?_⟩
  ·
   rw[hws,<- hz1];exact heap_alloc_new wl _
  ·
   rw[hws];exact(Go.heap_alloc_old wl _ (show w3.heap.size<wl.heap.size by omega)).trans (by rw[hwl];exact heap_alloc_new w3 _)
  ·
   show w.heap.size<=w3.heap.size+1
   exact Nat.le_succ_of_le (Nat.le_trans HC1.out.size (Nat.le_trans HC2.out.size HC3.out.size))
 rw[<- hwl,<- hws];have HS0:=Hd hS0;clear hS0 hws hwl hz1 HR2 HR3 HC1 HC2 HC3 HL1 HL2 HL3 HP1 HI1 HI2 HP;go_wp2_with fail
 go_loopw [31] (fun i wr=>∃ (j:Nat) (s:Za0) (o1:Own),j<=n/\i=.int .i64 j/\NewS o w n room (w3.heap.size+1) s j o1 wr) (fun i _=>n-(intOf i).toNat)
 case atStart=>exact⟨0,_,_,by omega,rfl,HS0.out⟩
 case round =>
  obtain⟨j,s,o1,hj,rfl,hS⟩:=hrel;clear HS0
  by_cases hlt:j<n
  ·
   obtain⟨c0,c1,c2,c3,c4,f0⟩:=cells5 hS.blk;obtain⟨av,cv,hvt,_⟩:=hS.tabs.slice;rw[hvt] at c2;have hlt':(j:Int)<n:=by omega
   have HJ:(j:Int)+1<=64:=by omega
   have HS:=Hd hS;have HTR:Hid (RowR o1 wr .tabs 144 1 (.slice av j cv) j (s.ts.map ptrV)):=by show RowR _ _ _ _ _ _ _ _;rw[<- hvt];exact hS.tabs
   have HNU:=Hd (Zzq o1 j wr.drew hS.lt);have HJ64:j<=64:=by omega
   have HVT:=Hd hvt;clear hvt hS;go_upto_region 9 with fail;refine Zan (fun W:World=>W.cell? ⟨w3.heap.size+1,2,none⟩=some (.slice av j cv)/\W.frozen? ⟨w3.heap.size+1,2,none⟩=false) true 10
    [(0,false),(1,false),(2,false),(3,false),(4,false),(5,true),(6,true),(7,true),(8,false),(9,false),(10,true)] (by kernel_rfl) (by kernel_rfl) ⟨c2,f0 2⟩ ?_
   simp only[planned,Zd8]
   iterate 5
    refine Zap rfl ?_;apply Exists.intro;refine⟨fun w' hw=>?_,?_⟩
    ·
     obtain⟨h1,h2⟩:=hw;go_simp;rfl
    simp only[Zag]
   refine Zch (R:=fun v w'=>∃ t o2,v=.pointer (some ⟨t,0,none⟩)/\Zc0 o2 w' j t (fun _=>none)/\Chg (fun r=>r=.tab j\/r=.tmap j) o1 o2 wr w'/\Zai o2 w') rfl (by go_simp) (HNU.out.mono (fun e w' he=>?_)) ?_
   ·
    obtain⟨t,o2,rfl,a1,a2,a3,a4⟩:=he;obtain⟨_,_,q2,_,_,q0⟩:=cells5 ((a2.same (by exact HS.out.lt) HS.out.own (by simp)).trans HS.out.blk);exact⟨_,rfl,⟨by rw[<- HVT.out];exact q2,q0 2⟩,t,o2,rfl,a1,⟨a2.os,a2.tape,a2.output,a2.size,a2.block,a2.ext,a2.new⟩,a3⟩
   rintro v wy-⟨t,o2,rfl,ht,hcy,hly⟩;simp only[Zag];have hsy:=(hcy.same HS.out.lt HS.out.own (by simp)).trans HS.out.blk;have hly2:w3.heap.size+1<wy.heap.size:=(Array.getElem?_eq_some_iff.1 hsy).1;have HCY:=Hd hcy;have HTY:=Hd ht;have HLY:=Hd hly;have HTR2:=HTR.out.chg hcy HS.out.lt (by simp);obtain⟨wb,hwb⟩:∃ wb,wb=wy.alloc (.cells #[.pointer (some ⟨t,0,none⟩)] 144):=⟨_,rfl⟩;obtain⟨_,_,p2,_,_,p0⟩:=cells5 (show wb.heap[w3.heap.size+1]?=_ from by rw[hwb];exact(Go.heap_alloc_old _ _ hly2).trans hsy);refine Zpx (v:=.slice (some ⟨wy.heap.size,0,none⟩) 1 1) (w':=wb) rfl (by rw[hwb];go_simp) ⟨by rw[<- HVT.out];exact p2,p0 2⟩ ?_;simp only[Zag];obtain⟨g,cap,wz,o3,happ,hrz,hcz,hlz⟩:=Ziq 141 144 141 1 8 (.pointer none) Tryz.underlying141 Zue rfl (by decide) #[.pointer (some ⟨t,0,none⟩)] rfl (fun u hu=>by simp at hu;subst hu;rfl) HTR2 hly (by omega) (by decide);rw[<- hwb] at happ;obtain⟨_,_,r2,_,_,r0⟩:=cells5 ((hcz.same hly (hcy.ext _ _ HS.out.own) (by simp)).trans hsy);refine Zpx (v:=.slice (some ⟨g,0,none⟩) (j+1) cap) (w':=wz) rfl (Zrd rfl rfl rfl happ) ⟨by rw[<- HVT.out];exact r2,r0 2⟩ ?_;simp only[Zag];have HG:=Hd (HS.out.grown ht hcy hly hrz hcz hlz);clear hsy hly2 hcy ht hly HTR2 hwb p2 p0 happ hrz hcz hlz
   iterate 2
    refine Zap rfl ?_;apply Exists.intro;refine⟨fun w' hw=>?_,?_⟩
    ·
     obtain⟨h1,h2⟩:=hw;go_simp;rfl
    simp only[Zag]
   refine Zel rfl (fun K hK=>?_);unfold Oper.wp;go_simp;refine hK _ _ (Zbx ?_);go_wp2_with fail;go_roundw
   case rel=>exact⟨j+1,_,_,by omega,by simp,HG.out⟩
   case measure=>simp[intOf];omega
  ·
   obtain rfl:j=n:=by omega
   have HS:=Hd hS;clear hS;go_wp2_with fail
   go_ret2
   exact⟨_,_,rfl,HS.out.done,HS.out.chg,HS.out.lt,HS.out.ge⟩
open Go.RowKit
structure Ev where
 after:Int
 kind:Int
 level:Int
def evL (e:Ev):List Value:=[.int .i64 e.after,.int .i64 e.kind,.int .i64 e.level]
def evA (e:Ev):Value:=.agg #[.int .i64 e.after,.int .i64 e.kind,.int .i64 e.level]
structure Zcq (o:Own) (w:World) (v:Value) (ws:List Ev):Prop where
 ex:(v=.slice none 0 0/\ws=[])\/∃ g off cap cur,v=.slice (some ⟨g,off,none⟩) ws.length cap/\o g=some .waits/\w.heap[g]?=some (.cells cur 73 (0,0))/\ws.length<=cap/\cap<=maxLen /\
  off+cap*3<=cur.size/\(cur.toList.drop off).take (ws.length*3)=ws.flatMap evL
theorem Zcq.keep {o o':Own} {w w':World} {v:Value} {ws:List Ev} (h:Zcq o w v ws) (hk:∀ g,o g=some .waits->w'.heap[g]?=w.heap[g]?) (ho:∀ g,o g=some .waits->o' g=some .waits):Zcq o' w' v ws:=by
 refine⟨h.ex.imp id ?_⟩;rintro⟨g,off,cap,cur,h1,h2,h3,rest⟩;exact⟨g,off,cap,cur,h1,ho g h2,(hk g h2).trans h3,rest⟩
theorem Zcq.chg {R:Role->Prop} {o o':Own} {w w':World} {v:Value} {ws:List Ev} (h:Zcq o w v ws) (hc:Chg R o o' w w') (hlt:Zai o w) (hr:¬ R .waits):Zcq o' w' v ws :=
 h.keep (fun g hg=>hc.same hlt hg hr) (fun g hg=>hc.ext g _ hg)
theorem Zcq.nil (o:Own) (w:World):Zcq o w (.slice none 0 0) []:=⟨.inl ⟨rfl,rfl⟩⟩
theorem Zcq.slice {o:Own} {w:World} {v:Value} {ws:List Ev} (h:Zcq o w v ws):∃ a cap,v=.slice a ws.length cap/\(a=none->cap=0):=by
 rcases h.ex with ⟨h1,h0⟩|⟨g,off,cap,cur,h1,_⟩
 ·
  exact⟨none,0,by rw[h1,h0];rfl,fun _=>rfl⟩
 ·
  exact⟨_,cap,h1,by simp⟩
theorem Zm9 (ws:List Ev):(ws.flatMap evL).length=ws.length*3:=Za6 evL 3 (fun _=>rfl) ws
theorem Zcq.first {o:Own} {w:World} {v:Value} {ev:Ev} {ws:List Ev} (h:Zcq o w v (ev::ws)):∃ g off cap,v=.slice (some ⟨g,off,none⟩) (ws.length+1) cap/\o g=some .waits/\ws.length+1<=cap/\cap<=maxLen /\
 w.cell? ⟨g,off,none⟩=some (.int .i64 ev.after)/\w.cell? ⟨g,off+1,none⟩=some (.int .i64 ev.kind)/\w.cell? ⟨g,off+2,none⟩=some (.int .i64 ev.level)/\Zcq o w (.slice (if cap=1 then some ⟨g,off,none⟩ else some ⟨g,off+3,none⟩) ws.length (cap-1)) ws:=by
 rcases h.ex with ⟨h1,h0⟩|⟨g,off,cap,cur,h1,h2,h3,h4,h5,h6,h7⟩
 ·
  cases h0
 ·
  simp only[List.length_cons] at h1 h4 h7;have hc:∀ j u,(evL ev++ws.flatMap evL)[j]?=some u->w.cell? ⟨g,off+j,none⟩=some u:=by
   intro j u hj;have hl:=(List.getElem?_eq_some_iff.1 hj).1;have hl':j<(ws.length+1)*3:=by
    have e1:(evL ev++ws.flatMap evL).length=3+ws.length*3:=by rw[List.length_append,Zm9];rfl
    omega
   rw[cell_of_row w g (off+j) cur _ (0,0) h3];have e2:(evL ev++ws.flatMap evL)[j]?=((cur.toList.drop off).take ((ws.length+1)*3))[j]?:=by rw[h7];rfl
   rw[e2,List.getElem?_take,if_pos hl',List.getElem?_drop] at hj;simpa using hj
  refine⟨g,off,cap,h1,h2,h4,h5,hc 0 _ rfl,hc 1 _ rfl,hc 2 _ rfl,⟨.inr ?_⟩⟩
  by_cases e1:cap=1
  ·
   have e2:ws=[]:=List.eq_nil_of_length_eq_zero (by omega);subst e2;exact⟨g,off,cap-1,cur,by rw[if_pos e1],h2,h3,by simp,by omega,by omega,by simp⟩
  ·
   refine⟨g,off+3,cap-1,cur,by rw[if_neg e1],h2,h3,by omega,by omega,by omega,?_⟩;have e3:(cur.toList.drop (off+3)).take (ws.length*3)=((cur.toList.drop off).take ((ws.length+1)*3)).drop 3:=by
    rw[List.drop_take,List.drop_drop];congr 1;omega
   rw[e3,h7];rfl
structure ManD where
 d:Zac
 hs:List (Int×Nat)
 next:Int
 waits:List Ev
 calls:Int
structure ManW where
 sb:Nat
 me:Nat
 hb:Nat
 vw:Value
def encH (hs:List (Int×Nat)):List (Int×Value):=hs.map fun p=>(p.1,.int .i64 (p.2:Nat))
structure Zbz (F:Phi) (o:Own) (w:World) (mb:Nat) (m:ManD) (s:ManW):Prop where
 own:o mb=some .man
 blk:w.heap[mb]?=some (.cells #[.pointer (some ⟨s.sb,0,none⟩),.pointer (some ⟨s.me,0,none⟩),.map (some s.hb),.int .i64 m.next,s.vw,.int .i64 m.calls] 88 (0,0))
 store:Zaq o w s.sb m.d
 memo:Zcd o w s.me F
 ownh:o s.hb=some .handles
 map:Zaz w s.hb (Value.int .i64) (encH m.hs)
 waits:Zcq o w s.vw m.waits
def Zd0 (F:Phi) (o:Own) (w:World) (mb:Nat) (m:ManD):Prop:=∃ s,Zbz F o w mb m s
theorem cells6 {w:World} {g:Nat} {a b c d e f:Value} {T:TypeId} (h:w.heap[g]?=some (.cells #[a,b,c,d,e,f] T (0,0))):w.cell? ⟨g,0,none⟩=some a/\w.cell? ⟨g,1,none⟩=some b/\w.cell? ⟨g,2,none⟩=some c/\w.cell? ⟨g,3,none⟩=some d/\w.cell? ⟨g,4,none⟩=some e/\w.cell? ⟨g,5,none⟩=some f /\
 (∀ k,w.frozen? ⟨g,k,none⟩=false) :=
 ⟨by rw[cell_of_row w g 0 _ _ _ h];rfl,by rw[cell_of_row w g 1 _ _ _ h];rfl,by rw[cell_of_row w g 2 _ _ _ h];rfl,by rw[cell_of_row w g 3 _ _ _ h];rfl,by rw[cell_of_row w g 4 _ _ _ h];rfl,by rw[cell_of_row w g 5 _ _ _ h];rfl,fun k=>by simp[World.frozen?,h]⟩
section
variable {F:Phi} {o o':Own} {w w':World} {mb:Nat} {m:ManD} {s:ManW}
theorem Zaz.keepB {w w':World} {b:Nat} {enc:Int->Value} {l:List (Int×Value)} (h:Zaz w b enc l) (hk:w'.heap[b]?=w.heap[b]?):Zaz w' b enc l:=by
 obtain⟨es,c,hb,rest⟩:=h.ex;exact⟨⟨es,c,hk.trans hb,rest⟩,h.nodup⟩
theorem Zaq.keepR {sb:Nat} {d:Zac} (h:Zaq o w sb d) (hk:∀ g r,o g=some r->Zam r->w'.heap[g]?=w.heap[g]?) (ho:∀ g r,o g=some r->o' g=some r):Zaq o' w' sb d:=by
 obtain⟨s,h⟩:=h;have row:∀ {r e k v n xs},Zam r->RowR o w r e k v n xs->RowR o' w' r e k v n xs:=fun hr h=>h.keep (fun g hg=>hk g _ hg hr) (fun g hg=>ho g _ hg)
 refine⟨s,ho _ _ h.own,ho _ _ h.ownl,(hk _ _ h.own (by simp[Zam])).trans h.blk,(hk _ _ h.ownl (by simp[Zam])).trans h.lev,row (by simp[Zam]) h.vars,row (by simp[Zam]) h.level,
  h.pool.keep (fun g r hg hr=>hk g r hg (by rcases hr with rfl|rfl|rfl|rfl<;>simp[Zam,Zfb])) ho,row (by simp[Zam]) h.tabs,
  fun v hv=>(h.tab v hv).keep (fun g r hg hr=>hk g r hg (by rcases hr with rfl|rfl<;>simp[Zam])) ho,row (by simp[Zam]) h.counts,h.len,h.tlen⟩
theorem Zcd.mono {G:Phi} {me:Nat} (h:Zcd o w me F) (hF:∀ op a b c r,F op a b c r->G op a b c r):Zcd o w me G:=by
 obtain⟨ve,a,f,h1,h2⟩:=h.ex;refine⟨h.own,ve,a,f,h1,h2.imp id ?_⟩;rintro⟨ge,cap,l,e1,e2,e3,e4⟩;exact⟨ge,cap,l,e1,e2,e3,fun i hi=>hF _ _ _ _ _ (e4 i hi)⟩
theorem Zbz.keep (h:Zbz F o w mb m s) (hk:∀ g r,o g=some r->w'.heap[g]?=w.heap[g]?) (ho:∀ g r,o g=some r->o' g=some r):Zbz F o' w' mb m s :=
 ⟨ho _ _ h.own,(hk _ _ h.own).trans h.blk,h.store.keepR (fun g r hg _=>hk g r hg) ho,h.memo.keep (fun g r hg _=>hk g r hg) ho,ho _ _ h.ownh,h.map.keepB (hk _ _ h.ownh),h.waits.keep (fun g hg=>hk g _ hg) (fun g hg=>ho g _ hg)⟩
theorem Zbz.below (h:Zbz F o w mb m s) (hlt:Zai o w) (hb:Below w.heap.size w w'):Zbz F o w' mb m s:=h.keep (fun g r hg=>hb.block g (hlt g r hg)) (fun _ _ h=>h)
theorem Zbz.setStore {d':Zac} (h:Zbz F o w mb m s) (hlt:Zai o w) (hs:Zaq o' w' s.sb d') (hc:Chg Zam o o' w w'):Zbz F o' w' mb { m with d:=d' } s :=
 ⟨hc.ext _ _ h.own,(hc.same hlt h.own (by simp[Zam,Zfb])).trans h.blk,hs,h.memo.chg hc hlt (by simp[Zam,Zfb]) (by simp[Zam,Zfb]),hc.ext _ _ h.ownh,h.map.keepB (hc.same hlt h.ownh (by simp[Zam,Zfb])),h.waits.chg hc hlt (by simp[Zam,Zfb])⟩
theorem Zbz.setMemo {G:Phi} (h:Zbz F o w mb m s) (hlt:Zai o w) (hm:Zcd o' w' s.me G) (hc:Chg (fun r=>r=.memo\/r=.entries) o o' w w'):Zbz G o' w' mb m s :=
 ⟨hc.ext _ _ h.own,(hc.same hlt h.own (by simp)).trans h.blk,h.store.keepR (fun g r hg hr=>hc.same hlt hg (by rintro(rfl|rfl)<;>simp[Zam,Zfb] at hr)) hc.ext,hm,hc.ext _ _ h.ownh,h.map.keepB (hc.same hlt h.ownh (by simp)),h.waits.chg hc hlt (by simp)⟩
theorem Zbz.mono {G:Phi} (h:Zbz F o w mb m s) (hF:∀ op a b c r,F op a b c r->G op a b c r):Zbz G o w mb m s:=⟨h.own,h.blk,h.store,h.memo.mono hF,h.ownh,h.map,h.waits⟩
theorem Zbz.field (h:Zbz F o w mb m s) {k:Nat} {u:Value} {m':ManD} {s':ManW} (hd:m'.d=m.d) (hh:m'.hs=m.hs) (h1:s'.sb=s.sb) (h2:s'.me=s.me) (h3:s'.hb=s.hb) (hw:Zcq o w s'.vw m'.waits)
 (hb:(#[.pointer (some ⟨s.sb,0,none⟩),.pointer (some ⟨s.me,0,none⟩),.map (some s.hb),.int .i64 m.next,s.vw,.int .i64 m.calls]:Array Value).setIfInBounds k u=#[.pointer (some ⟨s.sb,0,none⟩),.pointer (some ⟨s.me,0,none⟩),.map (some s.hb),.int .i64 m'.next,s'.vw,.int .i64 m'.calls]) :
 Zbz F o (w.setCell ⟨mb,k,none⟩ u) mb m' s':=by
 have ne:∀ {g r},o g=some r->r ≠ .man->g≠mb:=fun hg hr e=>by subst e;have:=h.own;rw[hg] at this;cases this;exact hr rfl
 refine⟨h.own,?_,?_,?_,by rw[h3];exact h.ownh,?_,hw.keep (fun g hg=>Zad (ne hg (by simp)) _) (fun _ h=>h)⟩
 ·
  rw[h1,h2,h3,<- hb];exact Zae h.blk _
 ·
  rw[h1,hd];exact h.store.keepR (fun g r hg hr=>Zad (ne hg (by rintro rfl;simp[Zam,Zfb] at hr)) _) (fun _ _ h=>h)
 ·
  rw[h2];exact h.memo.keep (fun g r hg hr=>Zad (ne hg (by rintro rfl;rcases hr with e|e<;>cases e)) _) (fun _ _ h=>h)
 ·
  rw[h3,hh];exact h.map.keepB (Zad (ne h.ownh (by simp)) _)
end
abbrev Law:=Zac->(Nat->BF)->Phi
def minL (d:Zac) (a b c:Nat):Nat:=min (lvE d.vars.length (levN d) (Zaa d) a) (min (lvE d.vars.length (levN d) (Zaa d) b) (lvE d.vars.length (levN d) (Zaa d) c))
structure IteP (d:Zac) (V:Nat->BF) (a b c r:Nat):Prop where
 okA:okE (Zaa d) a
 okB:okE (Zaa d) b
 okC:okE (Zaa d) c
 okR:okE (Zaa d) r
 val:∀ ρ,ef V r ρ=if ef V a ρ then ef V b ρ else ef V c ρ
 lev:minL d a b c<=lvE d.vars.length (levN d) (Zaa d) r
structure Zc8 (K:Law):Prop where
 ite:∀ d V a b c r,K d V 1 a b c r↔IteP d V a b c r
 ext:∀ d V d' V' op a b c r,Zaj d V->Zaj d' V'->Ext d V d' V'->K d V op a b c r->K d' V' op a b c r
 same:∀ d d' V op a b c r,d'.vars=d.vars->d'.level=d.level->Zaa d'=Zaa d->K d V op a b c r->K d' V op a b c r
def Zbo (hs:List (Int×Nat)) (i:Nat):Nat:=(hs.filter fun p=>decide (1<p.1)&&p.2/2 == i).length
structure Zbr (m:ManD):Prop where
 nodup:(m.hs.map Prod.fst).Nodup
 zero:(0,1)∈m.hs
 one:(1,0)∈m.hs
 lt:∀ p∈m.hs,0<=p.1/\p.1<m.next
 next:2<=m.next
 ok:∀ p∈m.hs,okE (Zaa m.d) p.2
 len:(m.hs.length:Int)<=m.next
 refs:∀ i b,Zaa m.d i=some b->Zat m.d i=Zbo m.hs i
structure Zvd (m:ManD) (V:Nat->BF):Prop where
 store:Zaj m.d V
 handles:Zbr m
structure Step (K:Law) (o:Own) (w:World) (mb:Nat) (m:ManD) (V:Nat->BF) (o':Own) (w':World) (m':ManD) (V':Nat->BF):Prop where
 is:Zd0 (K m'.d V') o' w' mb m'
 lt:Zai o' w'
 chg:Chg (fun _=>True) o o' w w'
 ok:Zaj m'.d V'
 ext:Ext m.d V m'.d V'
 hs:m'.hs=m.hs
 next:m'.next=m.next
theorem Step.trans {K:Law} {o o' o'':Own} {w w' w'':World} {mb:Nat} {m m' m'':ManD} {V V' V'':Nat->BF} (h:Step K o w mb m V o' w' m' V') (h':Step K o' w' mb m' V' o'' w'' m'' V''):Step K o w mb m V o'' w'' m'' V'' :=
 ⟨h'.is,h'.lt,h.chg.trans h'.chg,h'.ok,h.ext.trans h'.ext,h'.hs.trans h.hs,h'.next.trans h.next⟩
structure Zer (o:Own) (w:World) (xb mb:Nat):Prop where
 cell:w.cell? ⟨xb,0,none⟩=some (.pointer (some ⟨mb,0,none⟩))
 own:o xb=none
theorem Zer.chg {R:Role->Prop} {o o':Own} {w w':World} {xb mb:Nat} (h:Zer o w xb mb) (hc:Chg R o o' w w'):Zer o' w' xb mb:=⟨hc.cell h.cell h.own,hc.alien' (World.block_lt_of_cell? w _ h.cell) h.own⟩
open Go.RowKit
def sw1 (f g:Nat):Nat:=if g=f then 0 else if g=enot f then 1 else g
def sw2 (f h:Nat):Nat:=if h=f then 1 else if h=enot f then 0 else h
theorem Ydd {f g:Nat} (h:g<eMax):sw1 f g<eMax:=by unfold sw1;unfold eMax at *;split<;>(try split)<;>omega
theorem Yde {f g:Nat} (h:g<eMax):sw2 f g<eMax:=by unfold sw2;unfold eMax at *;split<;>(try split)<;>omega
theorem eqE2 (w:World) (a b c d:Nat):(Op.equalIn 10000 205 (.agg #[.int .i64 a,.int .i64 b]) (.agg #[.int .i64 c,.int .i64 d])).run Tryz.prog w=.ok (decide (a=c/\b=d)) w:=by
 have h:=eqE w (a,b) (c,d);unfold encE Op.equal at h;simp only[Prod.mk.injEq] at h;exact h
structure IteR where
 a:Nat
 b:Nat
 c:Nat
 n:Bool
 r:Nat
 dn:Bool
def iteV (x:IteR):Value:=.tuple #[.int .i64 x.a,.int .i64 x.b,.int .i64 x.c,.bool x.n,.int .i64 x.r,.bool x.dn]
def iteM (f g h:Nat):IteR:=if eneg f then ⟨enot f,eflip h (eneg h),eflip g (eneg h),eneg h,0,false⟩ else ⟨f,eflip g (eneg g),eflip h (eneg g),eneg g,0,false⟩
def iteK (f g h:Nat):IteR :=
 if f=0\/g=h then ⟨0,0,0,false,g,true⟩ else if f=1 then ⟨0,0,0,false,h,true⟩ else if g=0/\h=1 then ⟨0,0,0,false,f,true⟩ else if g=1/\h=0 then ⟨0,0,0,false,enot f,true⟩ else iteM f g h
def iteR (f g h:Nat):IteR:=iteK f (sw1 f g) (sw2 f h)
theorem Zci {fn:Func} {t u v x y z:Tmp} (h:fn.results=#[.tmp t,.tmp u,.tmp v,.tmp x,.tmp y,.tmp z]) (tmps:Array Value) (P:Program) (w:World) :
 (results fn tmps).run P w=.ok (.tuple #[tmps.getD t undef,tmps.getD u undef,tmps.getD v undef,tmps.getD x undef,tmps.getD y undef,tmps.getD z undef]) w:=by
 simp[results,h]
theorem Zwv (f g h:Nat) (w:World) (hf:f<eMax) (hg:g<eMax) (hh:h<eMax) :
 Calls Tryz.prog 99 #[.int .i64 f,.int .i64 g,.int .i64 h] w fun x w'=>x=.returned (iteV (iteR f g h))/\w=w':=by
 have HN:=Hd (fun W:World=>Zno f W hf);have HG':=Hd (Ydd (f:=f) hg);have HH:=Hd hh;have HH':=Hd (Yde (f:=f) hh);have HFF:=Hd hf;clear hf hg hh
 go_enter Tryz.func99,Tryz.ntmps99
 go_upto_block 0 with fail
 go_cut [1] from 13 (fun s1 wx=>s1=.int .i64 (sw1 f g:Nat)/\wx=w)
 case first =>
  by_cases h1:g=f
  ·
   have HX:Hid ((sw1 f g:Nat)=0):=by show _=_;simp[sw1,h1]
   subst h1;go_wp2_with fail;go_meet;exact⟨by rw[HX.out];rfl,rfl⟩
  ·
   have H1:(g == f)=false:=by simp[h1]
   by_cases h2:g=enot f
   ·
    have HX:Hid ((sw1 f g:Nat)=1):=by show _=_;unfold sw1;rw[if_neg h1,if_pos h2]
    subst h2;clear h1;go_wp2_with (go_at_call 40;refine(HN.out _).mono ?_;rintro x w' ⟨rfl,rfl⟩);go_meet;exact⟨by rw[HX.out];rfl,rfl⟩
   ·
    have HX:Hid ((sw1 f g:Nat)=g):=by show _=_;unfold sw1;rw[if_neg h1,if_neg h2]
    have H2:(g == enot f)=false:=by simp[h2]
    clear h1 h2;go_wp2_with (go_at_call 40;refine(HN.out _).mono ?_;rintro x w' ⟨rfl,rfl⟩);go_meet;exact⟨by rw[HX.out],rfl⟩
 case rest =>
  obtain⟨rfl,rfl⟩:=hcut;have HX1:Hid (iteR f g h=iteK f (sw1 f g) (sw2 f h)):=by show _=_;rfl
  obtain⟨g',hg'⟩:∃ g',g'=sw1 f g:=⟨_,rfl⟩;rw[<- hg'] at HX1;rw[<- hg'] at HG' ⊢;clear hg'
  go_upto_block 1 with fail
  go_cut [2] from 13 (fun s2 wx=>s2=.int .i64 (sw2 f h:Nat)/\wx=wc)
  case first =>
   by_cases h1:h=f
   ·
    have HX:Hid ((sw2 f h:Nat)=1):=by show _=_;simp[sw2,h1]
    subst h1;go_wp2_with fail;go_meet;exact⟨by rw[HX.out];rfl,rfl⟩
   ·
    have H1:(h == f)=false:=by simp[h1]
    by_cases h2:h=enot f
    ·
     have HX:Hid ((sw2 f h:Nat)=0):=by show _=_;unfold sw2;rw[if_neg h1,if_pos h2]
     subst h2;clear h1;go_wp2_with (go_at_call 40;refine(HN.out _).mono ?_;rintro x w' ⟨rfl,rfl⟩);go_meet;exact⟨by rw[HX.out];rfl,rfl⟩
    ·
     have HX:Hid ((sw2 f h:Nat)=h):=by show _=_;unfold sw2;rw[if_neg h1,if_neg h2]
     have H2:(h == enot f)=false:=by simp[h2]
     clear h1 h2;go_wp2_with (go_at_call 40;refine(HN.out _).mono ?_;rintro x w' ⟨rfl,rfl⟩);go_meet;exact⟨by rw[HX.out],rfl⟩
  case rest =>
   obtain⟨rfl,rfl⟩:=hcut;obtain⟨h',hh'⟩:∃ h',h'=sw2 f h:=⟨_,rfl⟩;rw[<- hh'] at HX1 HH' ⊢;clear hh'
   rename World=>w
   have hq:=fun(a b c d:Nat)=>eqE2 w a b c d
   by_cases f0:f=0
   ·
    have HR:Hid (iteR f g h=⟨0,0,0,false,g',true⟩):=by show _=_;rw[HX1.out,iteK,if_pos (.inl f0)]
    subst f0;go_wp2_with fail;refine bodyPost_ret (Zci rfl _ _ _) rfl ?_;exact⟨by rw[HR.out];rfl,rfl⟩
   ·
    have H0:((f:Int) == 0)=false:=by simp[f0]
    by_cases e1:g'=h'
    ·
     have HR:Hid (iteR f g h=⟨0,0,0,false,g',true⟩):=by show _=_;rw[HX1.out,iteK,if_pos (.inr e1)]
     subst e1;go_wp2_with fail;refine bodyPost_ret (Zci rfl _ _ _) rfl ?_;exact⟨by rw[HR.out];rfl,rfl⟩
    ·
     have H1:(g' == h')=false:=by simp[e1]
     by_cases f1:f=1
     ·
      have HR:Hid (iteR f g h=⟨0,0,0,false,h',true⟩):=by show _=_;rw[HX1.out,iteK,if_neg (by simp[f0,e1]),if_pos f1]
      have HR:=HR;subst f1;clear f0 e1;go_wp2_with fail;refine bodyPost_ret (Zci rfl _ _ _) rfl ?_;exact⟨by rw[HR.out];rfl,rfl⟩
     ·
      have H2:((f:Int) == 1)=false:=by simp;omega
      by_cases q1:g'=0/\h'=1
      ·
       have HR:Hid (iteR f g h=⟨0,0,0,false,f,true⟩):=by show _=_;rw[HX1.out,iteK,if_neg (by simp[f0,e1]),if_neg f1,if_pos q1]
       have hq1:(Op.equalIn 10000 205 (.agg #[.int .i64 g',.int .i64 h']) (.agg #[.int .i64 0,.int .i64 1])).run Tryz.prog w=.ok true w:=(hq g' h' 0 1).trans (by simp[q1]);clear f0 e1 f1 q1 hq;go_wp2_with fail;refine bodyPost_ret (Zci rfl _ _ _) rfl ?_;exact⟨by rw[HR.out];rfl,rfl⟩
      ·
       have hq1:(Op.equalIn 10000 205 (.agg #[.int .i64 g',.int .i64 h']) (.agg #[.int .i64 0,.int .i64 1])).run Tryz.prog w=.ok false w:=(hq g' h' 0 1).trans (by simp[q1])
       by_cases q2:g'=1/\h'=0
       ·
        have HR:Hid (iteR f g h=⟨0,0,0,false,enot f,true⟩):=by show _=_;rw[HX1.out,iteK,if_neg (by simp[f0,e1]),if_neg f1,if_neg q1,if_pos q2]
        have hq2:(Op.equalIn 10000 205 (.agg #[.int .i64 g',.int .i64 h']) (.agg #[.int .i64 1,.int .i64 0])).run Tryz.prog w=.ok true w:=(hq g' h' 1 0).trans (by simp[q2]);clear f0 e1 f1 q1 hq q2;go_wp2_with (go_at_call 40;refine(HN.out _).mono ?_;rintro x w' ⟨rfl,rfl⟩);refine bodyPost_ret (Zci rfl _ _ _) rfl ?_;exact⟨by rw[HR.out];rfl,rfl⟩
       ·
        have hq2:(Op.equalIn 10000 205 (.agg #[.int .i64 g',.int .i64 h']) (.agg #[.int .i64 1,.int .i64 0])).run Tryz.prog w=.ok false w:=(hq g' h' 1 0).trans (by simp[q2]);have HR0:Hid (iteR f g h=iteM f g' h'):=by show _=_;rw[HX1.out,iteK,if_neg (by simp[f0,e1]),if_neg f1,if_neg q1,if_neg q2]
        clear f0 e1 f1 q1 hq q2;have HNE:=Hd (fun W:World=>Zf9 f W HFF.out);cases hb:eneg f with
        | true =>
          have HR:Hid (iteR f g h=⟨enot f,eflip h' (eneg h'),eflip g' (eneg h'),eneg h',0,false⟩):=by show _=_;rw[HR0.out,iteM,if_pos hb]
          rw[hb] at HNE;clear hb;go_wp2_with fail;refine(HNE.out _).mono ?_;rintro x w' ⟨rfl,rfl⟩;go_wp2_with fail;refine(HN.out _).mono ?_;rintro x w' ⟨rfl,rfl⟩;go_wp2_with fail;refine(Zf9 h' _ HH'.out).mono ?_;rintro x w' ⟨rfl,rfl⟩;go_wp2_with fail;refine(Zb1 h' _ _ HH'.out).mono ?_;rintro x w' ⟨rfl,rfl⟩;go_wp2_with fail;refine(Zb1 g' _ _ HG'.out).mono ?_;rintro x w' ⟨rfl,rfl⟩;go_wp2_with fail;refine bodyPost_ret (Zci rfl _ _ _) rfl ?_;exact⟨by rw[HR.out];rfl,rfl⟩
        | false =>
          have HR:Hid (iteR f g h=⟨f,eflip g' (eneg g'),eflip h' (eneg g'),eneg g',0,false⟩):=by show _=_;rw[HR0.out,iteM,if_neg (by simp[hb])]
          rw[hb] at HNE;clear hb;go_wp2_with fail;refine(HNE.out _).mono ?_;rintro x w' ⟨rfl,rfl⟩;go_wp2_with fail;refine(Zf9 g' _ HG'.out).mono ?_;rintro x w' ⟨rfl,rfl⟩;go_wp2_with fail;refine(Zb1 g' _ _ HG'.out).mono ?_;rintro x w' ⟨rfl,rfl⟩;go_wp2_with fail;refine(Zb1 h' _ _ HH'.out).mono ?_;rintro x w' ⟨rfl,rfl⟩;go_wp2_with fail;refine bodyPost_ret (Zci rfl _ _ _) rfl ?_;exact⟨by rw[HR.out];rfl,rfl⟩
end Go.Proofs.YtlgogjbkadckkaaGreat

namespace Go.Proofs.YtlgogjbkadckkaaGreat
def Zdq (e f g h:Nat):Prop:=e/2=0\/e/2=f/2\/e/2=g/2\/e/2=h/2
def iteB (a b c:Bool):Bool:=if a then b else c
section
variable {V:Nat->BF} (hV:∀ ρ,V 0 ρ=true)
theorem Zif (hV:∀ ρ,V 0 ρ=true) (ρ:Nat->Bool):ef V 0 ρ=true:=by simp[ef,hV]
theorem Zl2 (hV:∀ ρ,V 0 ρ=true) (ρ:Nat->Bool):ef V 1 ρ=false:=by simp[ef,hV]
theorem Ya4 (hV:∀ ρ,V 0 ρ=true) (f g:Nat) (h:Bool) (ρ:Nat->Bool):iteB (ef V f ρ) (ef V (sw1 f g) ρ) h=iteB (ef V f ρ) (ef V g ρ) h:=by
 unfold sw1
 by_cases e1:g=f
 ·
  subst e1;rw[if_pos rfl,Zif hV];unfold iteB;cases ef V g ρ<;>rfl
 ·
  by_cases e2:g=enot f
  ·
   subst e2;rw[if_neg e1,if_pos rfl,Zfz,Zl2 hV];unfold iteB;cases ef V f ρ<;>rfl
  ·
   rw[if_neg e1,if_neg e2]
end
theorem Ya5 {V:Nat->BF} (hV:∀ ρ,V 0 ρ=true) (f h:Nat) (g:Bool) (ρ:Nat->Bool):iteB (ef V f ρ) g (ef V (sw2 f h) ρ)=iteB (ef V f ρ) g (ef V h ρ):=by
 unfold sw2
 by_cases e1:h=f
 ·
  subst e1;rw[if_pos rfl,Zl2 hV];unfold iteB;cases ef V h ρ<;>rfl
 ·
  by_cases e2:h=enot f
  ·
   subst e2;rw[if_neg e1,if_pos rfl,Zfz,Zif hV];unfold iteB;cases ef V f ρ<;>rfl
  ·
   rw[if_neg e1,if_neg e2]
theorem Zs9 (f g:Nat):sw1 f g/2=0\/sw1 f g/2=g/2:=by unfold sw1;split<;>(try split)<;>simp
theorem Zta (f g:Nat):sw2 f g/2=0\/sw2 f g/2=g/2:=by unfold sw2;split<;>(try split)<;>simp
theorem Zkj {f g h:Nat} (hd:(iteR f g h).dn=true):Zdq (iteR f g h).r f g h/\∀ {V:Nat->BF},(∀ ρ,V 0 ρ=true)->∀ ρ,ef V (iteR f g h).r ρ=iteB (ef V f ρ) (ef V g ρ) (ef V h ρ):=by
 have q1:=Zs9 f g;have q2:=Zta f h;have key:∀ {V:Nat->BF},(∀ ρ,V 0 ρ=true)->∀ ρ,iteB (ef V f ρ) (ef V g ρ) (ef V h ρ)=iteB (ef V f ρ) (ef V (sw1 f g) ρ) (ef V (sw2 f h) ρ):=fun hV ρ=>by rw[Ya4 hV,Ya5 hV]
 unfold iteR at hd ⊢
 generalize sw1 f g=g' at *
 generalize sw2 f h=h' at *
 unfold iteK at hd ⊢
 by_cases e1:f=0\/g'=h'
 ·
  simp only[if_pos e1];refine⟨by unfold Zdq;omega,fun hV ρ=>?_⟩;rw[key hV];rcases e1 with e|e
  ·
   subst e;rw[Zif hV];rfl
  ·
   subst e;unfold iteB;split<;>rfl
 ·
  simp only[if_neg e1] at hd ⊢
  by_cases e2:f=1
  ·
   simp only[if_pos e2];refine⟨by unfold Zdq;omega,fun hV ρ=>?_⟩;rw[key hV];subst e2;rw[Zl2 hV];rfl
  ·
   simp only[if_neg e2] at hd ⊢
   by_cases e3:g'=0/\h'=1
   ·
    simp only[if_pos e3];refine⟨by unfold Zdq;omega,fun hV ρ=>?_⟩;rw[key hV,e3.1,e3.2,Zl2 hV,Zif hV];unfold iteB;cases ef _ f ρ<;>rfl
   ·
    simp only[if_neg e3] at hd ⊢
    by_cases e4:g'=1/\h'=0
    ·
     simp only[if_pos e4];have:=Zdt f;refine⟨by unfold Zdq;omega,fun hV ρ=>?_⟩;rw[key hV,e4.1,e4.2,Zl2 hV,Zif hV,Zfz];unfold iteB;cases ef _ f ρ<;>rfl
    ·
     simp only[if_neg e4] at hd;unfold iteM at hd;split at hd<;>cases hd
theorem Zpl {f g h:Nat} (hd:(iteR f g h).dn=false):Zdq (iteR f g h).a f g h/\Zdq (iteR f g h).b f g h/\Zdq (iteR f g h).c f g h/\(iteR f g h).a/2≠0 /\
 ∀ {V:Nat->BF},(∀ ρ,V 0 ρ=true)->∀ ρ,iteB (ef V f ρ) (ef V g ρ) (ef V h ρ)=((iteR f g h).n != iteB (ef V (iteR f g h).a ρ) (ef V (iteR f g h).b ρ) (ef V (iteR f g h).c ρ)):=by
 have q1:=Zs9 f g;have q2:=Zta f h;have key:∀ {V:Nat->BF},(∀ ρ,V 0 ρ=true)->∀ ρ,iteB (ef V f ρ) (ef V g ρ) (ef V h ρ)=iteB (ef V f ρ) (ef V (sw1 f g) ρ) (ef V (sw2 f h) ρ):=fun hV ρ=>by rw[Ya4 hV,Ya5 hV]
 unfold iteR at hd ⊢
 generalize sw1 f g=g' at *
 generalize sw2 f h=h' at *
 unfold iteK at hd ⊢
 by_cases e1:f=0\/g'=h'
 ·
  simp[if_pos e1] at hd
 ·
  by_cases e2:f=1
  ·
   simp[if_neg e1,if_pos e2] at hd
  ·
   by_cases e3:g'=0/\h'=1
   ·
    simp[if_neg e1,if_neg e2,if_pos e3] at hd
   ·
    by_cases e4:g'=1/\h'=0
    ·
     simp[if_neg e1,if_neg e2,if_neg e3,if_pos e4] at hd
    ·
     simp only[if_neg e1,if_neg e2,if_neg e3,if_neg e4];unfold iteM
     by_cases e5:eneg f=true
     ·
      simp only[if_pos e5];have a1:=Zdt f;have a2:=Zcm h' (eneg h');have a3:=Zcm g' (eneg h');refine⟨by unfold Zdq;omega,by unfold Zdq;omega,by unfold Zdq;omega,by omega,fun hV ρ=>?_⟩;rw[key hV,Zfz,Zcy,Zcy];unfold iteB;cases ef _ f ρ<;>cases eneg h'<;>simp
     ·
      simp only[if_neg e5];have a2:=Zcm h' (eneg g');have a3:=Zcm g' (eneg g');refine⟨by unfold Zdq;omega,by unfold Zdq;omega,by unfold Zdq;omega,by omega,fun hV ρ=>?_⟩;rw[key hV,Zcy,Zcy];unfold iteB;cases ef _ f ρ<;>cases eneg g'<;>simp
end Go.Proofs.YtlgogjbkadckkaaGreat
