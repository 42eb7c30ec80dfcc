/- Several texts in one file: contracts of the program's functions and what follows from them. -/
import Derived.Test.YtmofaapnkidioaaGreatE1
import Derived.Laws.IdiomCopy
import Derived.Deep.Cut
import Derived.Deep.CutRange
import Derived.Deep.DeepCutAuto
set_option linter.unusedSimpArgs false
set_option linter.unusedVariables false
set_option linter.unusedSectionVars false
set_option linter.unnecessarySimpa false
set_option maxRecDepth 100000
set_option maxHeartbeats 8000000
namespace Go.Proofs.YtmofaapnkidioaaGreat
open Go.RowKit
section
variable {P:Program} {ops:Array Oper} {S:World->Prop} {Q:Exit->Act->World->Prop} {last:Bool}
theorem Zb1 {o:Oper} {r:List (Option Oper×Bool)} {a:Act} {w:World} {f:FuncId} {args:Array Value} {R:Value->World->Prop} (hg:o.guard=none)
 (he:(execOp a.eval o).run P w=.ok (.enter f args) w) (hc:Calls P f args w fun e w'=>∃ v,e=.returned v/\S w'/\R v w')
 (h:∀ v w',S w'->R v w'->Zcy P ops Q S last r (a.put o.dst v) w'):Zcy P ops Q S last ((some o,true)::r) a w:=by
 have hw:Region.wanted o (yielded ops a.tmps)=true:=by simp[Region.wanted,hg]
 unfold Zcy;simp only[hw,if_true,Oper.wp,he,Oper.upon];exact hc.mono fun e w' ⟨v,h1,h2,h3⟩=>by subst h1;exact⟨.inr h2,h v w' h2 h3⟩
end
theorem Zn0 (o:Own) (w:World) (hlt:Zak o w):RowR (Zcp o w.heap.size .entries) (w.alloc (.cells (madeCells #[.int .i64 0,.int .i64 0,.int .i64 0,.int .i64 0,.int .i64 0,.bool false] (4096*6)) 237)) .entries 237 6 (.slice (some ⟨w.heap.size,0,none⟩) 4096 4096) 4096 ((List.replicate 4096 ent0).flatMap entV):=by
 refine⟨by rw[Zbi entV 6 Zb0,List.length_replicate],.inr ⟨w.heap.size,4096,_,rfl,Zbf _ _ _,heap_alloc_new w _,Nat.le_refl _,by decide,by rw[size_madeCells];exact Nat.le_refl _,?_⟩⟩;rw[Zi9,List.take_of_length_le];rw[Zbi entV 6 Zb0,List.length_replicate];exact Nat.le_refl _
theorem Zlk (F:Phi) (n:Nat):Zs5 F (List.replicate n ent0):=by
 intro i hi;have:Zet (List.replicate n ent0) i=ent0:=by
  simp only[Zet,List.getD,List.getElem?_replicate];split<;>rfl
 rw[this] at hi;cases hi
theorem Zkk (w:World):(Instr.makeSlice 218 (.int .i64 4096) (.int .i64 4096)).run Tryz.prog w=.ok (.slice (some ⟨w.heap.size,0,none⟩) 4096 4096) (w.alloc (.cells (madeCells #[.int .i64 0,.int .i64 0,.int .i64 0,.int .i64 0,.int .i64 0,.bool false] (4096*6)) 237)):=by
 have s:=Zn9;cases hi:Tryz.prog.info? 237 with
 | none=>rw[hi] at s;cases s
 | some i =>
   rw[hi] at s;simp only[Option.map_some,Option.some.injEq,Prod.mk.injEq] at s;obtain⟨hz,hs,hb⟩:=s;have:=run_make (P:=Tryz.prog) w 218 237 i _ Tryz.underlying218 hi hz .i64 .i64 4096 4096 (by decide) (by decide) (by rw[hb];decide) (by decide);rw[hs] at this;exact this
structure Zdm (o:Own) (w:World) (mb ge cap:Nat) (l:List EntD) (asked found:Int) (F:Phi):Prop where
 own:o mb=some .memo
 blk:w.heap[mb]?=some (.cells #[.int .i64 4096,.slice (some ⟨ge,0,none⟩) 4096 cap,.int .i64 asked,.int .i64 found] 220 (0,0))
 len:l.length=4096
 row:RowR o w .entries 237 6 (.slice (some ⟨ge,0,none⟩) 4096 cap) 4096 (l.flatMap entV)
 ok:Zs5 F l
theorem Zdm.is {o:Own} {w:World} {mb ge cap:Nat} {l:List EntD} {asked found:Int} {F:Phi} (h:Zdm o w mb ge cap l asked found F):Zcm o w mb F:=⟨h.own,_,_,_,h.blk,.inr ⟨ge,cap,l,rfl,h.len,h.row,h.ok⟩⟩
theorem Zmk {o:Own} {w:World} {mb:Nat} {asked found:Int} {F:Phi} (hown:o mb=some .memo) (hlt:Zak o w) (hmb:w.heap[mb]?=some (.cells #[.int .i64 4096,.slice none 0 0,.int .i64 asked,.int .i64 found] 220 (0,0))) (W:World)
 (hW:W=(w.setCell ⟨mb,1,none⟩ (.slice (some ⟨w.heap.size,0,none⟩) 4096 4096)).alloc (.cells (madeCells #[.int .i64 0,.int .i64 0,.int .i64 0,.int .i64 0,.int .i64 0,.bool false] 24576) 237)) :
 ∃ o',Zdm o' W mb w.heap.size 4096 (List.replicate 4096 ent0) asked found F/\Chg (fun r=>r=.memo\/r=.entries) o o' w W/\Zak o' W:=by
 have hlm:mb<w.heap.size:=hlt _ _ hown;obtain⟨w1,h1⟩:∃ w1,w1=w.setCell ⟨mb,1,none⟩ (.slice (some ⟨w.heap.size,0,none⟩) 4096 4096):=⟨_,rfl⟩;have hz:w1.heap.size=w.heap.size:=by rw[h1];simp[World.setCell]
 have hc1:Chg (fun r=>r=.memo\/r=.entries) o o w w1:=by rw[h1];exact Chg.setCell (R:=fun r=>r=.memo\/r=.entries) (p:=⟨mb,1,none⟩) (Chg.refl _ o w) hown (.inl rfl) _
 have hl1:Zak o w1:=hlt.mono hc1.size;have hm1:w1.heap[mb]?=some (.cells #[.int .i64 4096,.slice (some ⟨w.heap.size,0,none⟩) 4096 4096,.int .i64 asked,.int .i64 found] 220 (0,0)):=by rw[h1];exact Zae hmb _
 have hr:=Zn0 o w1 hl1;rw[<- h1] at hW;rw[hz] at hr;subst hW;refine⟨Zcp o w.heap.size .entries,⟨Zc8 hlt (Nat.le_refl _) hown,?_,List.length_replicate,hr,Zlk F _⟩,?_,?_⟩
 ·
  exact(Go.heap_alloc_old w1 _ (by omega)).trans hm1
 ·
  rw[<- hz];exact hc1.allocR hl1 _ (.inr rfl)
 ·
  rw[<- hz];exact hl1.allocR _ _
theorem Zdm.below {o:Own} {w w':World} {mb ge cap:Nat} {l:List EntD} {asked found:Int} {F:Phi} (h:Zdm o w mb ge cap l asked found F) (hlt:Zak o w) (hb:Below w.heap.size w w'):Zdm o w' mb ge cap l asked found F :=
 ⟨h.own,(hb.block mb (hlt _ _ h.own)).trans h.blk,h.len,h.row.below hlt hb,h.ok⟩
theorem Zlr {o:Own} {w:World} {mb ge cap:Nat} {l:List EntD} {asked found:Int} {F:Phi} (h:Zdm o w mb ge cap l asked found F) (op:Int) (a b c:Nat) :
 Calls Tryz.prog 207 #[.pointer (some ⟨mb,0,none⟩),.agg #[.int .i64 op,.int .i64 a,.int .i64 b,.int .i64 c]] w.drew fun x w'=>∃ i,i<4096/\x=.returned (.pointer (some ⟨ge,i*6,none⟩))/\Below w.drew.heap.size w.drew w' :=
 Zop mb ge cap op a b c w.drew (cells4 (w:=w.drew) h.blk).2.1
theorem Zdm.stored {o:Own} {w:World} {mb ge cap:Nat} {l:List EntD} {asked found:Int} {F:Phi} (h:Zdm o w mb ge cap l asked found F) {k:Nat} (hk:k<4096) {E:EntD} (hE:F E.op E.a E.b E.c E.r):Zdm o (set6 w ge k E) mb ge cap (l.set k E) asked found F:=by
 have hg:=h.row.owner;have hne:mb≠ge:=fun e=>by subst e;have:=h.own;rw[hg] at this;cases this
 refine⟨h.own,(Zvn hne).trans h.blk,by rw[List.length_set];exact h.len,?_,Zt0 h.ok k hE⟩;have hr:=h.row;rw[show 4096=l.length from h.len.symm] at hr;have:=Zvk (m:=l.length) hr (by rw[h.len];exact hk) E;rw[h.len] at this;exact this
theorem Zz7 (w:World) (a:Option Addr) (n c:Nat):(binOp .eql 218 (.slice a n c) (.slice none 0 0)).run Tryz.prog w=.ok (.bool a.isNone) w:=by
 have hd:Op.maxDepth=9999+1:=rfl;have h:(Op.equal 218 (.slice a n c) (.slice none 0 0)).run Tryz.prog w=.ok a.isNone w:=by
  unfold Op.equal;rw[hd];unfold Op.equalIn;simp only[Sem.run_bind,run_underlying Tryz.underlying218,Result.andThen_ok];cases a<;>simp
 simp only[binOp];simp[h]
theorem Zxc (o:Own) (mb:Nat) (F:Phi) (op:Int) (a b c r:Nat) (w:World) (h:Zcm o w mb F) (hlt:Zak o w) (hF:F op a b c r) :
 Calls Tryz.prog 153 #[.pointer (some ⟨mb,0,none⟩),.int .i64 op,.int .i64 a,.int .i64 b,.int .i64 c,.int .i64 r] w fun x w'=>x=.returned (.tuple #[])/\∃ o',Zcm o' w' mb F/\Chg (fun r=>r=.memo\/r=.entries) o o' w w'/\Zak o' w':=by
 obtain⟨ve,asked,found,hmb,hv⟩:=h.ex;obtain⟨c0,c1,c2,c3,f0⟩:=cells4 hmb;have lmb:mb<w.heap.size:=Zaa c0;have HLT:=Hd hlt;have HMB:=Hd hmb;have HOWN:=Hd h.own;have HV:=Hd hv;have HF:=Hd hF;have HMK:=Hd Zkk;clear h hlt hmb hv hF;rcases HV.out with rfl|⟨ge,cap,l,rfl,hl,hrow,hok⟩
 ·
  have hmm:=Zkk w;have hnil:(binOp .eql 218 (.slice none 0 0) (.slice none 0 0)).run Tryz.prog w=.ok (.bool true) w:=Zz7 w none 0 0;have HM:=Hd (Zmk (F:=F) HOWN.out HLT.out HMB.out)
  go_enter Tryz.func153,Tryz.ntmps153
  go_upto_region 3 with fail;obtain⟨W1,hW1⟩:∃ W1,W1=(w.setCell ⟨mb,1,none⟩ (.slice (some ⟨w.heap.size,0,none⟩) 4096 4096)).alloc (.cells (madeCells #[.int .i64 0,.int .i64 0,.int .i64 0,.int .i64 0,.int .i64 0,.bool false] 24576) 237):=⟨_,rfl⟩;rw[<- hW1];obtain⟨o1,hm1,hc1,hl1⟩:=HM.out W1 hW1;have HM1:=Hd hm1;have HC1:=Hd hc1;have HL1:=Hd hl1;clear hm1 hc1 hl1 hW1 HM hmm hnil c0 c1 c2 c3 f0 lmb HV HMB HOWN HMK;obtain⟨d0,d1,d2,d3,g0⟩:=cells4 HM1.out.blk;have lmb1:mb<W1.heap.size:=Zaa d0;go_upto_region 4 with fail;obtain⟨bx,hbx⟩:∃ bx,bx=W1.heap.size:=⟨_,rfl⟩;obtain⟨W2,hW2⟩:∃ W2,W2=W1.alloc (.cells #[.int .i64 op,.int .i64 a,.int .i64 b,.int .i64 c] 233):=⟨_,rfl⟩;have hb2:Below W1.heap.size W1 W2:=by rw[hW2];exact Zad _ _
  have hkb:W2.heap[bx]?=some (.cells #[.int .i64 op,.int .i64 a,.int .i64 b,.int .i64 c] 233 (0,0)):=by rw[hW2,hbx];exact heap_alloc_new W1 _
  rw[<- hW2,<- hbx];have hm2:=HM1.out.below HL1.out hb2;have hc2:=HC1.out.trans (Chg.of_below hb2 (fun r=>r=.memo\/r=.entries) _);have hl2:=HL1.out.mono hb2.size;have HM2:=Hd hm2;have HC2:=Hd hc2;have HL2:=Hd hl2;have HKB:=Hd hkb;clear hm2 hc2 hl2 hb2 hW2 hbx HM1 HC1 HL1 d0 d1 d2 d3 g0 lmb1;obtain⟨k0,k1,k2,k3,fk⟩:=cells4 hkb;clear hkb;refine Zap (fun W:World=>W.cell? ⟨bx,0,none⟩=some (.int .i64 op)/\W.cell? ⟨bx,1,none⟩=some (.int .i64 a)/\W.cell? ⟨bx,2,none⟩=some (.int .i64 b)/\W.cell? ⟨bx,3,none⟩=some (.int .i64 c)) true 7
   [(0,false),(1,false),(3,false),(4,false),(5,false),(2,true),(6,false),(7,true)] (by kernel_rfl) (by kernel_rfl) ⟨k0,k1,k2,k3⟩ ?_
  simp only[planned,Zdl]
  iterate 5
   refine Zar rfl ?_;apply Exists.intro;refine⟨fun w' hw=>?_,?_⟩
   ·
    obtain⟨q0,q1,q2,q3⟩:=hw;go_simp;rfl
   simp only[Zah]
  refine Zb1 (R:=fun v w'=>∃ i,i<4096/\v=.pointer (some ⟨w.heap.size,i*6,none⟩)/\Below W2.drew.heap.size W2.drew w') rfl (by go_simp) ((Zlr HM2.out op a b c).mono (fun e w' he=>?_)) ?_
  ·
   obtain⟨i,hi,rfl,hb⟩:=he;obtain⟨j0,j1,j2,j3,_⟩:=cells4 ((hb.block bx (Array.getElem?_eq_some_iff.1 HKB.out).1).trans HKB.out);exact⟨_,rfl,⟨j0,j1,j2,j3⟩,i,hi,rfl,hb⟩
  rintro v w3-⟨i,hi,rfl,hb3⟩;simp only[Zah];have hb3:Below W2.heap.size W2 w3:=(Zai W2 1).trans hb3;have hm3:=HM2.out.below HL2.out hb3;have hc3:=HC2.out.trans (Chg.of_below hb3 (fun r=>r=.memo\/r=.entries) _);have hl3:=HL2.out.mono hb3.size;obtain⟨n0,n1,n2,n3,n4,n5⟩:=Zmc hm3.row hm3.len hi
  iterate 1
   refine Zar rfl ?_;apply Exists.intro;refine⟨fun w' hw=>?_,?_⟩
   ·
    obtain⟨q0,q1,q2,q3⟩:=hw;go_simp;rfl
   simp only[Zah]
  refine Zdn rfl rfl (Zg5 (fun j=>by have:=hm3.row.frozen j;exact this) n0 n1 n2 n3 n4 n5 ⟨op,a,b,c,r,true⟩) ?_;simp only[Zah];have hmf:=(hm3.stored hi (E:=⟨op,a,b,c,r,true⟩) HF.out).is;have hcf:=Zq0 (k:=i) (E:=⟨op,a,b,c,r,true⟩) hc3 hm3.row.owner (.inr rfl);have hlf:Zak o1 (set6 w3 w.heap.size i ⟨op,a,b,c,r,true⟩):=hl3.mono (by simp[set6,World.setCell]);obtain⟨WF,hWF⟩:∃ WF,WF=set6 w3 w.heap.size i ⟨op,a,b,c,r,true⟩:=⟨_,rfl⟩;rw[<- hWF] at hmf hcf hlf ⊢;clear n0 n1 n2 n3 n4 n5 hm3 hc3 hl3 hb3 k0 k1 k2 k3 fk hWF;go_wp2_with fail;refine bodyPost_end (results_none rfl _ _ _) rfl ?_;exact⟨rfl,o1,hmf,hcf,hlf⟩
 ·
  have HM1:Hid (Zdm o w mb ge cap l asked found F):=(Hd ⟨HOWN.out,HMB.out,hl,hrow,hok⟩);have hnil:(binOp .eql 218 (.slice (some ⟨ge,0,none⟩) 4096 cap) (.slice none 0 0)).run Tryz.prog w=.ok (.bool false) w:=Zz7 w _ _ _;clear hl hrow hok
  go_enter Tryz.func153,Tryz.ntmps153
  go_upto_region 3 with fail;obtain⟨W1,hW1⟩:∃ W1,W1=w:=⟨_,rfl⟩;have HC1:Hid (Chg (fun r=>r=.memo\/r=.entries) o o w W1):=Hd (hW1 ▸ Chg.refl _ _ _);have HL1:Hid (Zak o W1):=Hd (hW1 ▸ HLT.out);rw[<- hW1] at HM1;rw[<- hW1];obtain⟨o1,ho1⟩:∃ o1,o1=o:=⟨_,rfl⟩;rw[<- ho1] at HM1 HL1;have HC1:Hid (Chg (fun r=>r=.memo\/r=.entries) o o1 w W1):=by rw[ho1];exact HC1
  clear hW1 ho1 hnil c0 c1 c2 c3 f0 lmb HV HMB HOWN HMK;obtain⟨d0,d1,d2,d3,g0⟩:=cells4 HM1.out.blk;have lmb1:mb<W1.heap.size:=Zaa d0;go_upto_region 4 with fail;obtain⟨bx,hbx⟩:∃ bx,bx=W1.heap.size:=⟨_,rfl⟩;obtain⟨W2,hW2⟩:∃ W2,W2=W1.alloc (.cells #[.int .i64 op,.int .i64 a,.int .i64 b,.int .i64 c] 233):=⟨_,rfl⟩;have hb2:Below W1.heap.size W1 W2:=by rw[hW2];exact Zad _ _
  have hkb:W2.heap[bx]?=some (.cells #[.int .i64 op,.int .i64 a,.int .i64 b,.int .i64 c] 233 (0,0)):=by rw[hW2,hbx];exact heap_alloc_new W1 _
  rw[<- hW2,<- hbx];have hm2:=HM1.out.below HL1.out hb2;have hc2:=HC1.out.trans (Chg.of_below hb2 (fun r=>r=.memo\/r=.entries) _);have hl2:=HL1.out.mono hb2.size;have HM2:=Hd hm2;have HC2:=Hd hc2;have HL2:=Hd hl2;have HKB:=Hd hkb;clear hm2 hc2 hl2 hb2 hW2 hbx HM1 HC1 HL1 d0 d1 d2 d3 g0 lmb1;obtain⟨k0,k1,k2,k3,fk⟩:=cells4 hkb;clear hkb;refine Zap (fun W:World=>W.cell? ⟨bx,0,none⟩=some (.int .i64 op)/\W.cell? ⟨bx,1,none⟩=some (.int .i64 a)/\W.cell? ⟨bx,2,none⟩=some (.int .i64 b)/\W.cell? ⟨bx,3,none⟩=some (.int .i64 c)) true 7
   [(0,false),(1,false),(3,false),(4,false),(5,false),(2,true),(6,false),(7,true)] (by kernel_rfl) (by kernel_rfl) ⟨k0,k1,k2,k3⟩ ?_
  simp only[planned,Zdl]
  iterate 5
   refine Zar rfl ?_;apply Exists.intro;refine⟨fun w' hw=>?_,?_⟩
   ·
    obtain⟨q0,q1,q2,q3⟩:=hw;go_simp;rfl
   simp only[Zah]
  refine Zb1 (R:=fun v w'=>∃ i,i<4096/\v=.pointer (some ⟨ge,i*6,none⟩)/\Below W2.drew.heap.size W2.drew w') rfl (by go_simp) ((Zlr HM2.out op a b c).mono (fun e w' he=>?_)) ?_
  ·
   obtain⟨i,hi,rfl,hb⟩:=he;obtain⟨j0,j1,j2,j3,_⟩:=cells4 ((hb.block bx (Array.getElem?_eq_some_iff.1 HKB.out).1).trans HKB.out);exact⟨_,rfl,⟨j0,j1,j2,j3⟩,i,hi,rfl,hb⟩
  rintro v w3-⟨i,hi,rfl,hb3⟩;simp only[Zah];have hb3:Below W2.heap.size W2 w3:=(Zai W2 1).trans hb3;have hm3:=HM2.out.below HL2.out hb3;have hc3:=HC2.out.trans (Chg.of_below hb3 (fun r=>r=.memo\/r=.entries) _);have hl3:=HL2.out.mono hb3.size;obtain⟨n0,n1,n2,n3,n4,n5⟩:=Zmc hm3.row hm3.len hi
  iterate 1
   refine Zar rfl ?_;apply Exists.intro;refine⟨fun w' hw=>?_,?_⟩
   ·
    obtain⟨q0,q1,q2,q3⟩:=hw;go_simp;rfl
   simp only[Zah]
  refine Zdn rfl rfl (Zg5 (fun j=>by have:=hm3.row.frozen j;exact this) n0 n1 n2 n3 n4 n5 ⟨op,a,b,c,r,true⟩) ?_;simp only[Zah];have hmf:=(hm3.stored hi (E:=⟨op,a,b,c,r,true⟩) HF.out).is;have hcf:=Zq0 (k:=i) (E:=⟨op,a,b,c,r,true⟩) hc3 hm3.row.owner (.inr rfl);have hlf:Zak o1 (set6 w3 ge i ⟨op,a,b,c,r,true⟩):=hl3.mono (by simp[set6,World.setCell]);obtain⟨WF,hWF⟩:∃ WF,WF=set6 w3 ge i ⟨op,a,b,c,r,true⟩:=⟨_,rfl⟩;rw[<- hWF] at hmf hcf hlf ⊢;clear n0 n1 n2 n3 n4 n5 hm3 hc3 hl3 hb3 k0 k1 k2 k3 fk hWF;go_wp2_with fail;refine bodyPost_end (results_none rfl _ _ _) rfl ?_;exact⟨rfl,o1,hmf,hcf,hlf⟩
open Go.RowKit
theorem RowR.setCells {o:Own} {r:Role} {e:TypeId} {size n g m cap:Nat} (ys:List Value):∀ (w:World) (k:Nat) (xs:List Value),RowR o w r e size (.slice (some ⟨g,0,none⟩) m cap) n xs->k+ys.length<=xs.length ->
 RowR o (w.setCells g k ys) r e size (.slice (some ⟨g,0,none⟩) m cap) n (xs.take k++ys++xs.drop (k+ys.length)):=by
 induction ys with
 | nil=>intro w k xs h _;simpa [World.setCells] using h
 | cons y ys ih =>
   intro w k xs h hl;simp only[List.length_cons] at hl;have h1:=ih (w.setCell ⟨g,k,none⟩ y) (k+1) (xs.set k y) (h.stored k y) (by simp;omega);have e:(xs.set k y).take (k+1)++ys++(xs.set k y).drop (k+1+ys.length)=xs.take k++(y::ys)++xs.drop (k+(y::ys).length):=by
    have e1:(xs.set k y).take (k+1)=xs.take k++[y]:=by
     rw[List.set_eq_take_append_cons_drop,if_pos (by omega),List.take_append];simp;have:min k xs.length=k:=by omega
     rw[this];simp
     exact List.take_of_length_le (by simp;omega)
    have e2:(xs.set k y).drop (k+1+ys.length)=xs.drop (k+1+ys.length):=by
     rw[List.drop_set];rw[if_pos (by omega)]
    rw[e1,e2];simp[Nat.add_assoc,Nat.add_comm 1 ys.length]
   rw[e] at h1;exact h1
theorem Chg.setCells {R:Role->Prop} {o o':Own} {w0:World} {g:Nat} {r:Role} (hg:o' g=some r) (hR:R r) (ys:List Value):∀ (w:World) (k:Nat),Chg R o o' w0 w->Chg R o o' w0 (w.setCells g k ys):=by
 induction ys with
 | nil=>intro w k h;exact h
 | cons y ys ih=>intro w k h;exact ih _ _ (h.setCell (p:=⟨g,k,none⟩) hg hR y)
theorem Zjg {g b:Nat} (hb:b≠g) (ys:List Value):∀ (w:World) (k:Nat),(w.setCells g k ys).heap[b]?=w.heap[b]?:=by
 induction ys with
 | nil=>intro w k;rfl
 | cons y ys ih=>intro w k;rw[World.setCells,ih];exact Zaf (p:=⟨g,k,none⟩) hb y
theorem Zz1 (w:World):(zeroValue 237).run Tryz.prog w=.ok (.agg #[.int .i64 0,.int .i64 0,.int .i64 0,.int .i64 0,.int .i64 0,.bool false]) w:=by
 have s:=Zn9;cases hi:Tryz.prog.info? 237 with
 | none=>rw[hi] at s;cases s
 | some i =>
   rw[hi] at s;simp only[Option.map_some,Option.some.injEq,Prod.mk.injEq] at s;obtain⟨hz,hs,hb⟩:=s;simp[zeroValue,typeInfo,hi,hz]
theorem Zxz (n:Nat):(Builtin.zeroCells (Value.cells (.agg #[.int .i64 0,.int .i64 0,.int .i64 0,.int .i64 0,.int .i64 0,.bool false])) n).toList=(List.replicate n ent0).flatMap entV:=Zi9 n
theorem Zmv (w:World) (ty:TypeId) (ge cap n:Nat) (hc:∀ j,j<(n+1)*6->(w.cell? ⟨ge,j,none⟩).isSome=true) (hf:∀ j,w.frozen? ⟨ge,j,none⟩=false) :
 (Builtin.clear_ #[218] ty #[.slice (some ⟨ge,0,none⟩) (n+1) cap]).run Tryz.prog w=.ok (.tuple #[]) (w.setCells ge 0 ((List.replicate (n+1) ent0).flatMap entV)):=by
 have hlen:((List.replicate (n+1) ent0).flatMap entV).length=(n+1)*6:=by rw[Zbi entV 6 Zb0,List.length_replicate]
 have hst:=run_storeCells_cells (P:=Tryz.prog) ge 0 ((List.replicate (n+1) ent0).flatMap entV) 0 w (fun j hj=>by rw[hlen] at hj;simpa using hc j hj) (fun j _=>hf _) (fun v hv=>by
  rw[List.mem_flatMap] at hv;obtain⟨E,_,hv⟩:=hv;simp only[entV,List.mem_cons,List.not_mem_nil,or_false] at hv;rcases hv with rfl|rfl|rfl|rfl|rfl|rfl<;>rfl)
 unfold Builtin.clear_;simp only[List.getElem?_toArray,List.getElem?_cons_zero,Sem.run_bind,run_underlying Tryz.underlying218,Result.andThen_ok,Zz1,Zxz,hst];rfl
theorem Zoz (w:World) (ty:TypeId) (ge cap:Nat) (hc:∀ j,j<4096*6->(w.cell? ⟨ge,j,none⟩).isSome=true) (hf:∀ j,w.frozen? ⟨ge,j,none⟩=false) :
 (Builtin.clear_ #[218] ty #[.slice (some ⟨ge,0,none⟩) 4096 cap]).run Tryz.prog w=.ok (.tuple #[]) (w.setCells ge 0 ((List.replicate 4096 ent0).flatMap entV)):=Zmv w ty ge cap 4095 hc hf
theorem Zmw (w:World) (ty:TypeId):(Builtin.clear_ #[218] ty #[.slice none 0 0]).run Tryz.prog w=.ok (.tuple #[]) w:=by
 unfold Builtin.clear_;simp only[List.getElem?_toArray,List.getElem?_cons_zero,Sem.run_bind,run_underlying Tryz.underlying218,Result.andThen_ok];rfl
theorem Zro (o:Own) (mb:Nat) (F G:Phi) (w:World) (h:Zcm o w mb F) (hlt:Zak o w) :
 Calls Tryz.prog 196 #[.pointer (some ⟨mb,0,none⟩)] w fun x w'=>x=.returned (.tuple #[])/\Zcm o w' mb G/\Chg (· = .entries) o o w w'/\Zak o w':=by
 obtain⟨ve,asked,found,hmb,hv⟩:=h.ex;have hown:=h.own;obtain⟨c0,c1,c2,c3,f0⟩:=cells4 hmb;rcases hv with rfl|⟨ge,cap,l,rfl,hl,hrow,hok⟩
 ·
  have hr:=Zmw w 0;have HF:=Hd (show Zcm o w mb G from ⟨h.own,_,_,_,hmb,.inl rfl⟩);have HL:=Hd hlt;clear h hlt hmb hown
  go_enter Tryz.func196,Tryz.ntmps196
  go_wp2_with fail;refine bodyPost_end (results_none rfl _ _ _) rfl ?_;exact⟨rfl,HF.out,Chg.refl _ _ _,HL.out⟩
 ·
  have hg:=hrow.owner;have hne:mb≠ge:=fun e=>by subst e;rw[hg] at hown;cases hown
  have hxl:(l.flatMap entV).length=4096*6:=by rw[Zbi entV 6 Zb0,hl]
  have hr:=Zoz w 0 ge cap (fun j hj=>by rw[hrow.cell j (by rw[hxl];exact hj),List.getElem?_eq_getElem (by rw[hxl];exact hj)];rfl) hrow.frozen;obtain⟨W,hW⟩:∃ W,W=w.setCells ge 0 ((List.replicate 4096 ent0).flatMap entV):=⟨_,rfl⟩;rw[<- hW] at hr;have hrl:((List.replicate 4096 ent0).flatMap entV).length=4096*6:=by rw[Zbi entV 6 Zb0,List.length_replicate]
  have hrow2:RowR o W .entries 237 6 (.slice (some ⟨ge,0,none⟩) 4096 cap) 4096 ((List.replicate 4096 ent0).flatMap entV):=by
   have:=RowR.setCells ((List.replicate 4096 ent0).flatMap entV) w 0 _ hrow (by rw[hrl,hxl];omega);rw[List.take_zero,List.nil_append,Nat.zero_add,List.drop_of_length_le (by rw[hrl,hxl];exact Nat.le_refl _),List.append_nil,<- hW] at this;exact this
  have hcW:Chg (· = .entries) o o w W:=by rw[hW];exact Chg.setCells (R:=(· = .entries)) hg rfl _ _ _ (Chg.refl _ _ _)
  have HF:=Hd (show Zcm o W mb G from ⟨hown,_,_,_,(by rw[hW];exact(Zjg hne _ _ _).trans hmb),.inr ⟨ge,cap,_,rfl,List.length_replicate,hrow2,Zlk G _⟩⟩);have HL:=Hd (hlt.mono hcW.size);have HC:=Hd hcW;clear h hlt hmb hown hl hrow hok hg hxl hrl hrow2 hcW hW hne
  go_enter Tryz.func196,Tryz.ntmps196
  go_wp2_with fail;refine bodyPost_end (results_none rfl _ _ _) rfl ?_;exact⟨rfl,HF.out,HC.out,HL.out⟩
open Go.RowKit
theorem Zw1 (o:Own) (F:Phi) (w:World) (hlt:Zak o w) :
 Calls Tryz.prog 136 #[.int .i64 4096] w fun x w'=>∃ mb o',x=.returned (.pointer (some ⟨mb,0,none⟩))/\Zcm o' w' mb F/\Chg (· = .memo) o o' w w'/\Zak o' w'/\w.heap.size<=mb:=by
 have HL:=Hd hlt;clear hlt
 go_enter Tryz.func136,Tryz.ntmps136
 go_wp2_with fail;go_ret;exact⟨w.heap.size,Zcp o w.heap.size .memo,rfl,⟨Zbf _ _ _,_,_,_,heap_alloc_new w _,.inl rfl⟩,(Chg.refl _ o w).allocR HL.out _ rfl,HL.out.allocR _ _,Nat.le_refl _⟩
theorem Zhi {P:Program} (w:World) (T:TypeId):(Instr.makeMap T none).run P w=.ok (.map (some w.heap.size)) (w.alloc (.map #[] 0)):=rfl
theorem Zw3 (o:Own) (v:Nat) (w:World) (hlt:Zak o w) :
 Calls Tryz.prog 195 #[] w fun x w'=>∃ t o',x=.returned (.pointer (some ⟨t,0,none⟩))/\Zde o' w' v t (fun _=>none)/\Chg (fun r=>r=.tab v\/r=.tmap v) o o' w w'/\Zak o' w'/\w.heap.size<=t:=by
 have HL:=Hd hlt;have hm:=Zhi (P:=Tryz.prog) w 242;clear hlt
 go_enter Tryz.func195,Tryz.ntmps195
 go_wp2_with fail;go_ret;have hl1:=HL.out.allocR (.map #[] 0) (.tmap v);have hc1:=((Chg.refl (fun r=>r=.tab v\/r=.tmap v) o w).allocR (r:=.tmap v) HL.out (.map #[] 0) (.inr rfl));have hl2:=hl1.allocR (.cells #[.map (some w.heap.size)] 244) (.tab v);have hc2:=hc1.allocR (r:=.tab v) hl1 (.cells #[.map (some w.heap.size)] 244) (.inl rfl);have hz:(w.alloc (.map #[] 0)).heap.size=w.heap.size+1:=by simp
 have hlt1:w.heap.size<(w.alloc (.map #[] 0)).heap.size:=by rw[hz];omega
 refine⟨w.heap.size+1,_,rfl,⟨by rw[<- hz];exact Zbf _ _ _,w.heap.size,[],by rw[<- hz];exact heap_alloc_new _ _,Zc8 hl1 (Nat.le_refl _) (Zbf _ _ _),⟨⟨#[],0,(Go.heap_alloc_old _ _ hlt1).trans (heap_alloc_new w _),rfl,by simp,by simp⟩,by simp⟩,fun k=>rfl⟩,hc2,hl2,by omega⟩
open Go.RowKit
section
variable {P:Program} {S:World->Prop} {Q:Exit->Act->World->Prop} {m:Nat}
structure Left (P:Program) (l:List Oper) (Q:Exit->Act->World->Prop) (S:World->Prop) (m f:Nat) (L:Array Bool) (a:Act) (w:World):Prop where
 goes:Closed l.toArray L->S w->Zkw P l.toArray (NP Q) S m f L a w
theorem Zbo {id:Nat} {a:Act} {w:World} {l:List Oper} (S:World->Prop) (m:Nat) (hm:P.follows .mixedOrders=true) (hS:S w.drew)
 (h:Left P l Q S m l.length (Array.replicate l.toArray.size false) a w.drew):(Code.region id l.toArray true).wp P Q a w :=
 Zq8 (wp_region_any hm (Zgy _ _ _ _ (h.goes (Zf2 _) hS)))
theorem Zun {l:List Oper} {f:Nat} {L:Array Bool} {a:Act} {w:World} (i:Nat) (o:Oper) (v:Value) (hi:l[i]?=some o)
 (hB:(Region.noSelect l.toArray&&(Region.ready .any l.toArray L).contains i&&Region.free .any l.toArray L i&&(decide (l.toArray.size<=m)||reaches l.toArray l.toArray.size i m))=true)
 (hy:∀ w,S w->YieldsIf P l.toArray S o v a) (h:Left P l Q S m f (L.setIfInBounds i true) (a.put o.dst v) w):Left P l Q S m (f+1) L a w:=by
 refine⟨fun hc hS=>?_⟩;simp only[Bool.and_eq_true] at hB;obtain⟨⟨⟨hs,hr⟩,hf⟩,hm⟩:=hB;have hi':l.toArray[i]?=some o:=by simpa using hi
 have hr':i∈Region.ready .any l.toArray L:=by simpa using hr
 exact Zgl hi' hs (fun _ _ _ _ _ h=>h) hm f L a w hc (Region.free_spec hi' hf) hr' (hy w hS) hS (h.goes (hc.set hr') hS)
theorem Zac {l:List Oper} {f:Nat} {L:Array Bool} {a:Act} {w:World} (i:Nat) {o:Oper} (hi:l[i]?=some o) (hg:o.guard=none)
 (hB:(Region.noSelect l.toArray&&(Region.ready .any l.toArray L).contains i&&Region.free .any l.toArray L i&&(decide (l.toArray.size<=m)||reaches l.toArray l.toArray.size i m))=true)
 (h:∃ v,(∀ w,S w->(execOp a.eval o).run P w=.ok (.value v) w)/\Left P l Q S m f (L.setIfInBounds i true) (a.put o.dst v) w):Left P l Q S m (f+1) L a w:=by
 obtain⟨v,h1,h2⟩:=h;exact Zun i o v hi hB (fun w _=>.inl ⟨by simp[Region.wanted,hg],h1⟩) h2
theorem Zal {l:List Oper} {f:Nat} {L:Array Bool} {a:Act} {w:World} (is:List Nat) (hr:(decide (Region.ready .any l.toArray L=is) && !is.isEmpty)=true)
 (h:∀ i∈is,S w->∀ o,l[i]?=some o->Region.wanted o (yielded l.toArray a.tmps)=true/\o.wp P a w (fun a' w'=>S w'/\Left P l Q S m f (L.setIfInBounds i true) a' w') (NP Q)):Left P l Q S m (f+1) L a w:=by
 refine⟨fun hc hS=>?_⟩;simp only[Bool.and_eq_true,decide_eq_true_eq] at hr;obtain⟨hr,hne⟩:=hr;refine⟨fun h0=>(by rw[h0] at hr;subst hr;simp at hne),fun i hi=>?_⟩;have hi2:i∈is:=by rw[<- hr];exact hi
 obtain⟨_,o,ho,_⟩:=mem_ready.1 hi;obtain⟨hw,hwp⟩:=h i hi2 hS o (by simpa using ho);unfold wpOp;rw[ho];simp only[hw,if_true];left;refine Oper.wp_mono ?_ hwp;intro a' w' ⟨h1,h2⟩;exact⟨.inr h1,h2.goes (hc.set hi) h1⟩
theorem Zbk {l:List Oper} {L:Array Bool} {a:Act} {w:World} (hr:(Region.ready .any l.toArray L).isEmpty=true) (h:Q .normal a w):Left P l Q S m 0 L a w :=
 ⟨fun _ _=>⟨by simpa [List.isEmpty_iff] using hr,h⟩⟩
theorem Zaz {o:Oper} {a:Act} {w w':World} {v:Value} {K:Act->World->Prop} {Q:Exit->Act->World->Prop} (he:(execOp a.eval o).run P w=.ok (.value v) w') (h:K (a.put o.dst v) w'):o.wp P a w K Q:=by
 unfold Oper.wp;rw[he];exact h
end
open Go.RowKit
def pool0 (room:Nat):Zam:=⟨room,[rn0],[false],[],0⟩
abbrev Zbu:Obj:=.cells #[.int .i64 0,.int .i64 0,.int .i64 0,.int .i64 0,.int .i64 0] 199
abbrev Zbv:Obj:=.cells #[.bool false] 4
theorem Zqv {o:Own} {w:World} {pb gs gt room:Nat} (hr:room<=1048576) (hop:o pb=some .pool) (hos:o gs=some .slots) (hot:o gt=some .taken)
 (hpb:w.heap[pb]?=some (.cells #[.int .i64 room,.slice (some ⟨gs,0,none⟩) 1 1,.slice (some ⟨gt,0,none⟩) 1 1,.slice none 0 0,.int .i64 0] 241 (0,0)))
 (hs:w.heap[gs]?=some Zbu) (ht:w.heap[gt]?=some Zbv):Zau o w pb (pool0 room):=by
 refine⟨hop,⟨_,_,_,hpb,⟨rfl,.inr ⟨gs,1,_,rfl,hos,hs,Nat.le_refl _,by decide,by decide,rfl⟩⟩,⟨rfl,.inr ⟨gt,1,_,rfl,hot,ht,Nat.le_refl _,by decide,by decide,rfl⟩⟩,RowR.nil _ _ _ _ _⟩,rfl,hr,by simp[pool0],rfl,by simp[pool0],?_,rfl,by simp[pool0],by simp[pool0],?_⟩
 ·
  intro i hi;have:(pool0 room).tk i=false:=by
   cases i<;>rfl
  rw[this] at hi;cases hi
 ·
  simp[pool0,Zay,Zam.tk]
theorem Zsb:madeCells (Value.cells (.agg #[.int .i64 0,.int .i64 0,.int .i64 0,.int .i64 0,.int .i64 0])) (Int.toNat 1*5)=#[.int .i64 0,.int .i64 0,.int .i64 0,.int .i64 0,.int .i64 0]:=by kernel_rfl
theorem Zsc:madeCells (Value.cells (.bool false)) (Int.toNat 1*1)=#[.bool false]:=by kernel_rfl
theorem Zmy (w:World):(Instr.makeSlice 239 (.int .i64 1) (.int .i64 1)).run Tryz.prog w=.ok (.slice (some ⟨w.heap.size,0,none⟩) 1 1) (w.alloc Zbu):=by
 have s:=Zjl;cases hi:Tryz.prog.info? 199 with
 | none=>rw[hi] at s;cases s
 | some i =>
   rw[hi] at s;simp only[Option.map_some,Option.some.injEq,Prod.mk.injEq] at s;obtain⟨hz,hs,hb⟩:=s;have:=run_make (P:=Tryz.prog) w 239 199 i _ Tryz.underlying239 hi hz .i64 .i64 1 1 (by decide) (by decide) (by rw[hb];decide) (by decide);rw[hs,Zsb] at this;exact this
theorem Zmz (w:World):(Instr.makeSlice 34 (.int .i64 1) (.int .i64 1)).run Tryz.prog w=.ok (.slice (some ⟨w.heap.size,0,none⟩) 1 1) (w.alloc Zbv):=by
 have s:=Zmi;cases hi:Tryz.prog.info? 4 with
 | none=>rw[hi] at s;cases s
 | some i =>
   rw[hi] at s;simp only[Option.map_some,Option.some.injEq,Prod.mk.injEq] at s;obtain⟨hz,hs,hb⟩:=s;have:=run_make (P:=Tryz.prog) w 34 4 i _ Tryz.underlying34 hi hz .i64 .i64 1 1 (by decide) (by decide) (by rw[hb];decide) (by decide);rw[hs,Zsc] at this;exact this
abbrev NewR (r:Role):Prop:=r=.pool\/r=.slots\/r=.taken
theorem made2 {o:Own} {w:World} (hlt:Zak o w) (A B C:Obj) (ra rb:Role) (h1:NewR ra) (h2:NewR rb) :
 ∃ o',o' w.heap.size=some ra/\o' (w.heap.size+1)=some rb/\o' (w.heap.size+2)=some .pool/\Chg NewR o o' w (((w.alloc A).alloc B).alloc C)/\Zak o' (((w.alloc A).alloc B).alloc C) /\
  (((w.alloc A).alloc B).alloc C).heap[w.heap.size]?=some A/\(((w.alloc A).alloc B).alloc C).heap[w.heap.size+1]?=some B/\(((w.alloc A).alloc B).alloc C).heap[w.heap.size+2]?=some C:=by
 have z1:(w.alloc A).heap.size=w.heap.size+1:=by simp
 have z2:((w.alloc A).alloc B).heap.size=w.heap.size+2:=by simp
 have l1:=hlt.allocR A ra;have c1:=(Chg.refl NewR o w).allocR hlt A h1;have l2:=l1.allocR B rb;have c2:=c1.allocR l1 B h2;have l3:=l2.allocR C .pool;have c3:=c2.allocR l2 C (show NewR .pool from .inl rfl);refine⟨_,?_,?_,?_,c3,l3,?_,?_,?_⟩
 ·
  exact Zc8 l2 (Nat.le_refl _) (Zc8 l1 (Nat.le_refl _) (Zbf _ _ _))
 ·
  rw[<- z1];exact Zc8 l2 (Nat.le_refl _) (Zbf _ _ _)
 ·
  rw[<- z2];exact Zbf _ _ _
 ·
  rw[Go.heap_alloc_old _ _ (by omega),Go.heap_alloc_old _ _ (by omega)];exact heap_alloc_new w A
 ·
  rw[Go.heap_alloc_old _ _ (by omega),<- z1];exact heap_alloc_new _ B
 ·
  rw[<- z2];exact heap_alloc_new _ C
theorem Zw2 (o:Own) (room:Nat) (w:World) (hlt:Zak o w) (h1:1<=room) (h2:room<=1048576) :
 Calls Tryz.prog 193 #[.int .i64 room] w fun x w'=>∃ pb o',x=.returned (.tuple #[.pointer (some ⟨pb,0,none⟩),.int .i64 0])/\Zau o' w' pb (pool0 room)/\Chg NewR o o' w w'/\Zak o' w'/\w.heap.size<=pb:=by
 have HL:=Hd hlt;have b1:(1:Int)<=room:=by omega
 have b2:(room:Int)<=1048576:=by omega
 have HMS:=Hd Zmy;have HMT:=Hd Zmz;clear hlt
 go_enter Tryz.func193,Tryz.ntmps193
 go_upto_region 3 with fail;refine Zbo (fun W=>True) 7 (by kernel_rfl) trivial ?_;refine Zac 0 rfl rfl (by kernel_rfl) ?_;apply Exists.intro;refine⟨fun w' hw=>?_,?_⟩
 ·
  go_simp;rfl
 simp only[Zah];refine Zal [1,2] (by kernel_rfl) (fun i hi hS o ho=>?_);simp only[Za6] at hi;rcases hi with rfl|rfl
 ·
  simp only[Za1] at ho;subst ho;refine⟨rfl,?_⟩;have hm:=HMS.out w.drew;rw[show w.drew.heap.size=w.heap.size from rfl] at hm;refine Zaz (v:=.slice (some ⟨w.heap.size,0,none⟩) 1 1) (w':=w.drew.alloc Zbu) (by go_simp) ⟨trivial,?_⟩;simp only[Zah];refine Zal [2] (by kernel_rfl) (fun i hi hS o ho=>?_);simp only[Za6] at hi;subst hi;simp only[Za1] at ho;subst ho;refine⟨rfl,?_⟩;have hm:(Instr.makeSlice 34 (.int .i64 1) (.int .i64 1)).run Tryz.prog (w.alloc Zbu).drew=.ok (.slice (some ⟨w.heap.size+1,0,none⟩) 1 1) ((w.alloc Zbu).alloc Zbv).drew:=by
   have:=HMT.out (w.alloc Zbu).drew;rw[show (w.alloc Zbu).drew.heap.size=w.heap.size+1 from World.size_alloc w _] at this;exact this
  refine Zaz (v:=.slice (some ⟨w.heap.size+1,0,none⟩) 1 1) (w':=((w.alloc Zbu).alloc Zbv).drew) (by go_simp) ⟨trivial,?_⟩;simp only[Zah];refine Zac 3 rfl rfl (by kernel_rfl) ?_;apply Exists.intro;refine⟨fun w' hw=>?_,?_⟩
  ·
   go_simp;rfl
  simp only[Zah];refine Zal [4] (by kernel_rfl) (fun i hi hS o ho=>?_);simp only[Za6] at hi;subst hi;simp only[Za1] at ho;subst ho;refine⟨rfl,?_⟩;have hz:((w.alloc Zbu).alloc Zbv).heap.size=w.heap.size+2:=by simp
  refine Zaz (v:=.pointer (some ⟨w.heap.size+2,0,none⟩)) (w':=(((w.alloc Zbu).alloc Zbv).alloc (.cells #[.int .i64 room,.slice (some ⟨w.heap.size,0,none⟩) 1 1,.slice (some ⟨(w.heap.size+1),0,none⟩) 1 1,.slice none 0 0,.int .i64 0] 241)).drew) (by go_simp) ⟨trivial,?_⟩;simp only[Zah];refine Zac 5 rfl rfl (by kernel_rfl) ?_;apply Exists.intro;refine⟨fun w' hw=>?_,?_⟩
  ·
   go_simp;rfl
  simp only[Zah];refine Zac 6 rfl rfl (by kernel_rfl) ?_;apply Exists.intro;refine⟨fun w' hw=>?_,?_⟩
  ·
   go_simp;rfl
  simp only[Zah];refine Zbk (by kernel_rfl) ?_;obtain⟨o',q1,q2,q3,q4,q5,q6,q7,q8⟩:=made2 HL.out Zbu Zbv (.cells #[.int .i64 room,.slice (some ⟨w.heap.size,0,none⟩) 1 1,.slice (some ⟨(w.heap.size+1),0,none⟩) 1 1,.slice none 0 0,.int .i64 0] 241) .slots .taken (.inr (.inl rfl)) (.inr (.inr rfl));have hfin:Zau o' (((w.alloc Zbu).alloc Zbv).alloc (.cells #[.int .i64 room,.slice (some ⟨w.heap.size,0,none⟩) 1 1,.slice (some ⟨(w.heap.size+1),0,none⟩) 1 1,.slice none 0 0,.int .i64 0] 241)).drew (w.heap.size+2) (pool0 room):=Zqv h2 q3 q1 q2 q8 q6 q7;have q4':=q4.drew;have q5':Zak o' (((w.alloc Zbu).alloc Zbv).alloc (.cells #[.int .i64 room,.slice (some ⟨w.heap.size,0,none⟩) 1 1,.slice (some ⟨(w.heap.size+1),0,none⟩) 1 1,.slice none 0 0,.int .i64 0] 241)).drew:=q5;clear q1 q2 q3 q4 q5 q6 q7 q8 hm hz;go_wp2_with fail
  go_ret2
  exact⟨w.heap.size+2,o',rfl,hfin,q4',q5',by omega⟩
 ·
  simp only[Za1] at ho;subst ho;refine⟨rfl,?_⟩;have hm:=HMT.out w.drew;rw[show w.drew.heap.size=w.heap.size from rfl] at hm;refine Zaz (v:=.slice (some ⟨w.heap.size,0,none⟩) 1 1) (w':=w.drew.alloc Zbv) (by go_simp) ⟨trivial,?_⟩;simp only[Zah];refine Zal [1] (by kernel_rfl) (fun i hi hS o ho=>?_);simp only[Za6] at hi;subst hi;simp only[Za1] at ho;subst ho;refine⟨rfl,?_⟩;have hm:(Instr.makeSlice 239 (.int .i64 1) (.int .i64 1)).run Tryz.prog (w.alloc Zbv).drew=.ok (.slice (some ⟨w.heap.size+1,0,none⟩) 1 1) ((w.alloc Zbv).alloc Zbu).drew:=by
   have:=HMS.out (w.alloc Zbv).drew;rw[show (w.alloc Zbv).drew.heap.size=w.heap.size+1 from World.size_alloc w _] at this;exact this
  refine Zaz (v:=.slice (some ⟨w.heap.size+1,0,none⟩) 1 1) (w':=((w.alloc Zbv).alloc Zbu).drew) (by go_simp) ⟨trivial,?_⟩;simp only[Zah];refine Zac 3 rfl rfl (by kernel_rfl) ?_;apply Exists.intro;refine⟨fun w' hw=>?_,?_⟩
  ·
   go_simp;rfl
  simp only[Zah];refine Zal [4] (by kernel_rfl) (fun i hi hS o ho=>?_);simp only[Za6] at hi;subst hi;simp only[Za1] at ho;subst ho;refine⟨rfl,?_⟩;have hz:((w.alloc Zbv).alloc Zbu).heap.size=w.heap.size+2:=by simp
  refine Zaz (v:=.pointer (some ⟨w.heap.size+2,0,none⟩)) (w':=(((w.alloc Zbv).alloc Zbu).alloc (.cells #[.int .i64 room,.slice (some ⟨(w.heap.size+1),0,none⟩) 1 1,.slice (some ⟨w.heap.size,0,none⟩) 1 1,.slice none 0 0,.int .i64 0] 241)).drew) (by go_simp) ⟨trivial,?_⟩;simp only[Zah];refine Zac 5 rfl rfl (by kernel_rfl) ?_;apply Exists.intro;refine⟨fun w' hw=>?_,?_⟩
  ·
   go_simp;rfl
  simp only[Zah];refine Zac 6 rfl rfl (by kernel_rfl) ?_;apply Exists.intro;refine⟨fun w' hw=>?_,?_⟩
  ·
   go_simp;rfl
  simp only[Zah];refine Zbk (by kernel_rfl) ?_;obtain⟨o',q1,q2,q3,q4,q5,q6,q7,q8⟩:=made2 HL.out Zbv Zbu (.cells #[.int .i64 room,.slice (some ⟨(w.heap.size+1),0,none⟩) 1 1,.slice (some ⟨w.heap.size,0,none⟩) 1 1,.slice none 0 0,.int .i64 0] 241) .taken .slots (.inr (.inr rfl)) (.inr (.inl rfl));have hfin:Zau o' (((w.alloc Zbv).alloc Zbu).alloc (.cells #[.int .i64 room,.slice (some ⟨(w.heap.size+1),0,none⟩) 1 1,.slice (some ⟨w.heap.size,0,none⟩) 1 1,.slice none 0 0,.int .i64 0] 241)).drew (w.heap.size+2) (pool0 room):=Zqv h2 q3 q2 q1 q8 q7 q6;have q4':=q4.drew;have q5':Zak o' (((w.alloc Zbv).alloc Zbu).alloc (.cells #[.int .i64 room,.slice (some ⟨(w.heap.size+1),0,none⟩) 1 1,.slice (some ⟨w.heap.size,0,none⟩) 1 1,.slice none 0 0,.int .i64 0] 241)).drew:=q5;clear q1 q2 q3 q4 q5 q6 q7 q8 hm hz;go_wp2_with fail
  go_ret2
  exact⟨w.heap.size+2,o',rfl,hfin,q4',q5',by omega⟩
open Go.RowKit
structure Zag where
 vars:List Nat
 level:List Nat
 pool:Zam
 tab:Nat->Nat×Nat->Option Nat
 counts:List Nat
 dead:Nat
structure Za5 where
 lb:Nat
 pb:Nat
 vv:Value
 vl:Value
 vt:Value
 vc:Value
 ts:List Nat
def ptrV (b:Nat):Value:=.pointer (some ⟨b,0,none⟩)
structure Zao (o:Own) (w:World) (sb:Nat) (d:Zag) (s:Za5):Prop where
 own:o sb=some .store
 ownl:o s.lb=some .levels
 blk:w.heap[sb]?=some (.cells #[.pointer (some ⟨s.lb,0,none⟩),.pointer (some ⟨s.pb,0,none⟩),s.vt,s.vc,.int .i64 d.dead] 188 (0,0))
 lev:w.heap[s.lb]?=some (.cells #[s.vv,s.vl] 196 (0,0))
 vars:RowR o w .vars 3 1 s.vv d.vars.length (d.vars.map nat64)
 level:RowR o w .level 3 1 s.vl d.level.length (d.level.map nat64)
 pool:Zau o w s.pb d.pool
 tabs:RowR o w .tabs 216 1 s.vt s.ts.length (s.ts.map ptrV)
 tab:∀ v,v<s.ts.length->Zde o w v (s.ts.getD v 0) (d.tab v)
 counts:RowR o w .counts 3 1 s.vc d.counts.length (d.counts.map nat64)
 len:d.level.length=d.vars.length
 tlen:s.ts.length=d.vars.length
def Zax (o:Own) (w:World) (sb:Nat) (d:Zag):Prop:=∃ s,Zao o w sb d s
theorem Zao.below {o:Own} {w w':World} {sb:Nat} {d:Zag} {s:Za5} (h:Zao o w sb d s) (hlt:Zak o w) (hb:Below w.heap.size w w'):Zao o w' sb d s :=
 ⟨h.own,h.ownl,(hb.block sb (hlt _ _ h.own)).trans h.blk,(hb.block s.lb (hlt _ _ h.ownl)).trans h.lev,h.vars.below hlt hb,h.level.below hlt hb,h.pool.below hb hlt,h.tabs.below hlt hb,fun v hv=>(h.tab v hv).below hb hlt,h.counts.below hlt hb,h.len,h.tlen⟩
def Zag.levelOf (d:Zag) (v:Nat):Int:=if v<d.level.length then (d.level.getD v 0:Nat) else -1
theorem cells2 {w:World} {g:Nat} {a b:Value} {T:TypeId} (h:w.heap[g]?=some (.cells #[a,b] T (0,0))):w.cell? ⟨g,0,none⟩=some a/\w.cell? ⟨g,1,none⟩=some b/\(∀ k,w.frozen? ⟨g,k,none⟩=false) :=
 ⟨by rw[cell_of_row w g 0 _ _ _ h];rfl,by rw[cell_of_row w g 1 _ _ _ h];rfl,fun k=>by simp[World.frozen?,h]⟩
theorem Zka {o:Own} {w:World} {sb:Nat} {d:Zag} {s:Za5} (h:Zao o w sb d s) (v:Nat) (hbig:d.level.length<1000000) :
 Calls Tryz.prog 158 #[.pointer (some ⟨s.lb,0,none⟩),.int .i64 v] w fun x w'=>x=.returned (.int .i64 (d.levelOf v))/\w=w':=by
 obtain⟨c0,c1,_⟩:=cells2 h.lev;obtain⟨a,cap,hvl,_⟩:=h.level.slice;rw[hvl] at c1;have hrow:=h.level;rw[hvl] at hrow
 by_cases hv:v<d.level.length
 ·
  obtain⟨g,cap',he,_⟩:=hrow.shape (by omega);cases he;have hx:=hrow.cell v (by simpa using hv);have hval:(d.level.map nat64)[v]?=some (.int .i64 ((d.level.getD v 0:Nat):Int)):=by
   rw[List.getElem?_map,List.getElem?_eq_getElem hv];simp[nat64,List.getD,hv]
  rw[hval] at hx;have hv':(v:Int)<d.level.length:=by omega
  have hr:d.levelOf v=((d.level.getD v 0:Nat):Int):=by simp[Zag.levelOf,hv]
  rw[hr];obtain⟨L,hL⟩:∃ L:Int,L=((d.level.getD v 0:Nat):Int):=⟨_,rfl⟩;rw[<- hL] at hx ⊢;clear h hrow hvl hval hr hL
  go_enter Tryz.func158,Tryz.ntmps158
  go_wp2_with fail;go_ret;exact⟨rfl,rfl⟩
 ·
  have hv':(d.level.length:Int)<=v:=by omega
  have hr:d.levelOf v = -1:=by simp[Zag.levelOf,hv]
  rw[hr];clear h hrow hvl hr
  go_enter Tryz.func158,Tryz.ntmps158
  go_wp2_with fail;go_ret;exact⟨rfl,rfl⟩
theorem Zca {o:Own} {w:World} {sb:Nat} {d:Zag} {s:Za5} (h:Zao o w sb d s) (v:Nat) (hbig:d.level.length<1000000) :
 Calls Tryz.prog 83 #[.pointer (some ⟨sb,0,none⟩),.int .i64 v] w fun x w'=>x=.returned (.int .i64 (d.levelOf v))/\w=w':=by
 obtain⟨c0,c1,c2,c3,c4,f0⟩:=cells5 h.blk;have HC:=Hd (Zka h v hbig);clear h
 go_enter Tryz.func83,Tryz.ntmps83
 go_wp2_with fail;refine HC.out.mono ?_;rintro x w' ⟨rfl,rfl⟩;go_wp2_with fail;go_ret;exact⟨rfl,rfl⟩
open Go.RowKit
def Zam.has (p:Zam) (i:Nat):RN:=if p.tk i=true then p.nd i else rn0
theorem Zc4 (o:Own) (pb:Nat) (p:Zam) (i:Nat) (w:World) (h:Zau o w pb p) (hlt:Zak o w) :
 Calls Tryz.prog 171 #[.pointer (some ⟨pb,0,none⟩),.int .i64 i] w fun x w'=>x=.returned (.tuple #[Za3 (p.has i),.bool (p.tk i)])/\Below w.heap.size w w':=by
 by_cases hi:p.tk i=true
 ·
  have:=Zls o pb p i w h hlt hi;unfold Zam.has;rw[if_pos hi,hi];exact this
 ·
  have hi':p.tk i=false:=by simpa using hi
  have:=Zvb o pb p i w h hlt hi';unfold Zam.has;rw[if_neg hi,hi'];exact this
theorem Yah (k:Nat):(((k:Nat):Int) == 0)=decide (k=0):=by
 cases k with
 | zero=>rfl
 | succ n=>simp;omega
theorem Zat {P:Program} {o:Oper} {a:Act} {w:World} {v:Value} {f:FuncId} {args:Array Value} {K:Act->World->Prop} {Q:Exit->Act->World->Prop} {R:World->Prop} (he:(execOp a.eval o).run P w=.ok (.enter f args) w)
 (hc:Calls P f args w fun e w'=>e=.returned v/\R w') (h:∀ w',R w'->K (a.put o.dst v) w'):o.wp P a w K Q:=by
 unfold Oper.wp;simp only[he,Oper.upon];exact hc.mono fun e w' ⟨h1,h2⟩=>by subst h1;exact h w' h2
theorem Za9 {P:Program} {o:Oper} {a:Act} {w w':World} {t:TypeId} {s x:Operand} {K:Act->World->Prop} {Q:Exit->Act->World->Prop} (ho:o.op=.store t s x)
 (hr:(Instr.storeAt t (a.eval s) (a.eval x)).run P w=.ok () w') (h:K (a.put o.dst undef) w'):o.wp P a w K Q:=by
 unfold Oper.wp;rw[Zil ho hr];exact h
theorem Zbc {w W:World} {bx:Nat} (hb:Below w.heap.size w W) (hge:w.heap.size<=bx) (n:RN):Below w.heap.size w (set5 W bx 0 n) :=
 ((((hb.setCell (p:=⟨bx,0,none⟩) hge _).setCell (p:=⟨bx,1,none⟩) hge _).setCell (p:=⟨bx,2,none⟩) hge _).setCell (p:=⟨bx,3,none⟩) hge _).setCell (p:=⟨bx,4,none⟩) hge _
theorem Zbn {W:World} {bx:Nat} (h:W.heap[bx]?=some (.cells #[.int .i64 0,.int .i64 0,.int .i64 0,.int .i64 0,.int .i64 0] 199 (0,0))) (n:RN) :
 (set5 W bx 0 n).heap[bx]?=some (.cells #[.int .i64 n.id,.int .i64 n.v,.int .i64 n.lo,.int .i64 n.hi,.int .i64 n.refs] 199 (0,0)) :=
 Zae (k:=4) (Zae (k:=3) (Zae (k:=2) (Zae (k:=1) (Zae (k:=0) h _) _) _) _) _
theorem Zbj {o:Own} {w:World} {sb:Nat} {d:Zag} {s:Za5} (h:Zao o w sb d s) (hlt:Zak o w) (f:Nat) (hf:f<eMax) :
 Calls Tryz.prog 146 #[.pointer (some ⟨sb,0,none⟩),.int .i64 f] w fun x w'=>x=.returned (.bool (decide (enode f=0)||d.pool.tk (enode f)))/\Below w.heap.size w w':=by
 obtain⟨c0,c1,c2,c3,c4,f0⟩:=cells5 h.blk;have lsb:sb<w.heap.size:=Zaa c0;have hz:(0:Int)<=f:=by omega
 have HC1:Hid (∀ W:World,Below w.heap.size w W->W.cell? ⟨sb,1,none⟩=some (.pointer (some ⟨s.pb,0,none⟩))):=Hd (fun W hb=>(hb.cell (p:=⟨sb,1,none⟩) lsb).trans c1);have HPA:Hid (∀ W:World,Below w.heap.size w W->Calls Tryz.prog 171 #[.pointer (some ⟨s.pb,0,none⟩),.int .i64 (enode f:Nat)] W fun x w'=>x=.returned (.tuple #[Za3 (d.pool.has (enode f)),.bool (d.pool.tk (enode f))])/\Below W.heap.size W w') :=
  Hd (fun W hb=>Zc4 o s.pb d.pool (enode f) W (h.pool.below hb hlt) (hlt.mono hb.size))
 have HN:=Hd (fun W=>Zcn f W hf);obtain⟨N,hN⟩:∃ N,N=d.pool.has (enode f):=⟨_,rfl⟩;obtain⟨B,hB⟩:∃ B,B=d.pool.tk (enode f):=⟨_,rfl⟩;obtain⟨k,hk⟩:∃ k,k=enode f:=⟨_,rfl⟩;rw[<- hN,<- hB,<- hk] at HPA;rw[<- hk] at HN;rw[<- hB,<- hk];obtain⟨z,hz0⟩:∃ z:Bool,z=decide (k=0):=⟨_,rfl⟩;have hk0:(((k:Nat):Int) == 0)=z:=by rw[hz0];exact Yah k
 rw[<- hz0];clear h hlt c0 c1 c2 c3 c4 f0 hN hB hk hf hz0
 go_enter Tryz.func146,Tryz.ntmps146
 go_upto_region 3 with fail;refine Zbo (fun W:World=>Below w.heap.size w W) 13 (by kernel_rfl) (Zai w 1) ?_;refine Zac 0 rfl rfl (by kernel_rfl) ?_;apply Exists.intro;refine⟨fun w' hw=>?_,?_⟩
 ·
  have hc1:=HC1.out w' hw;go_simp;rfl
 simp only[Zah];refine Zac 1 rfl rfl (by kernel_rfl) ?_;apply Exists.intro;refine⟨fun w' hw=>?_,?_⟩
 ·
  have hc1:=HC1.out w' hw;go_simp;rfl
 simp only[Zah];refine Zac 2 rfl rfl (by kernel_rfl) ?_;apply Exists.intro;refine⟨fun w' hw=>?_,?_⟩
 ·
  have hc1:=HC1.out w' hw;go_simp;rfl
 simp only[Zah];refine Zac 3 rfl rfl (by kernel_rfl) ?_;apply Exists.intro;refine⟨fun w' hw=>?_,?_⟩
 ·
  have hc1:=HC1.out w' hw;go_simp;rfl
 simp only[Zah];refine Zac 4 rfl rfl (by kernel_rfl) ?_;apply Exists.intro;refine⟨fun w' hw=>?_,?_⟩
 ·
  have hc1:=HC1.out w' hw;go_simp;rfl
 simp only[Zah];refine Zal [5,10] (by kernel_rfl) (fun i hi hS o ho=>?_);simp only[Za6] at hi;rcases hi with rfl|rfl
 ·
  skip
  simp only[Za1] at ho;subst ho;refine⟨rfl,?_⟩;refine Zat (v:=(.int .i64 k)) (R:=fun w'=>w.drew=w') (by go_simp) (HN.out _) ?_;rintro w' rfl;refine⟨(Zai w 1),?_⟩;simp only[Zah];refine Zal [6,10] (by kernel_rfl) (fun i hi hS o ho=>?_);simp only[Za6] at hi;rcases hi with rfl|rfl
  ·
   skip
   simp only[Za1] at ho;subst ho;refine⟨rfl,?_⟩;refine Zat (v:=(.tuple #[Za3 N,.bool B])) (R:=fun w'=>Below (w.drew).heap.size (w.drew) w') (by go_simp) (HPA.out _ (Zai w 1)) ?_;intro v2 hv2;have hb2:=(Zai w 1).trans (hv2.mono (Zai w 1).size);refine⟨hb2,?_⟩;simp only[Zah];unfold Za3;refine Zac 7 rfl rfl (by kernel_rfl) ?_;apply Exists.intro;refine⟨fun w' hw=>?_,?_⟩
   ·
    clear hw;go_simp;rfl
   simp only[Zah];refine Zac 8 rfl rfl (by kernel_rfl) ?_;apply Exists.intro;refine⟨fun w' hw=>?_,?_⟩
   ·
    clear hw;go_simp;rfl
   simp only[Zah];refine Zac 9 rfl rfl (by kernel_rfl) ?_;apply Exists.intro;refine⟨fun w' hw=>?_,?_⟩
   ·
    clear hw;go_simp;rfl
   simp only[Zah];refine Zal [10] (by kernel_rfl) (fun i hi hS o ho=>?_);simp only[Za6] at hi;subst hi;simp only[Za1] at ho;subst ho;refine⟨rfl,?_⟩;have hb3:=hb2.trans ((Zad (v2) (.cells #[.int .i64 0,.int .i64 0,.int .i64 0,.int .i64 0,.int .i64 0] 199)).mono hb2.size);have hx3:=heap_alloc_new (v2) (.cells #[.int .i64 0,.int .i64 0,.int .i64 0,.int .i64 0,.int .i64 0] 199);have hge:w.heap.size<=(v2).heap.size:=hb2.size;refine Zaz (v:=.pointer (some ⟨(v2).heap.size,0,none⟩)) (w':=(v2).alloc (.cells #[.int .i64 0,.int .i64 0,.int .i64 0,.int .i64 0,.int .i64 0] 199)) (by go_simp) ⟨hb3,?_⟩;simp only[Zah];obtain⟨bx,hbx⟩:∃ bx,bx=(v2).heap.size:=⟨_,rfl⟩;rw[<- hbx] at hx3 hge ⊢;obtain⟨u3,hu3⟩:∃ u,u=(v2).alloc (.cells #[.int .i64 0,.int .i64 0,.int .i64 0,.int .i64 0,.int .i64 0] 199):=⟨_,rfl⟩;rw[<- hu3] at hx3 hb3 ⊢;clear hu3 hbx;refine Zal [11] (by kernel_rfl) (fun i hi hS o ho=>?_);simp only[Za6] at hi;subst hi;simp only[Za1] at ho;subst ho;refine⟨rfl,?_⟩;obtain⟨e0,e1,e2,e3,e4,fz⟩:=cells5 hx3;refine Za9 (w':=set5 u3 bx 0 N) rfl (Zaw (k:=0) fz e0 e1 e2 e3 e4 _ _ _ _ _) ?_;have hbf:Below w.heap.size w (set5 u3 bx 0 N):=Zbc hb3 hge N;have hxf:=Zbn hx3 N;refine⟨hbf,?_⟩;simp only[Zah];clear e0 e1 e2 e3 e4 fz;refine Zac 12 rfl rfl (by kernel_rfl) ?_;apply Exists.intro;refine⟨fun w' hw=>?_,?_⟩
   ·
    clear hw;go_simp;rfl
   simp only[Zah];refine Zbk (by kernel_rfl) ?_;go_wp2_with fail;refine(HN.out _).mono ?_;rintro x w' ⟨rfl,rfl⟩;cases z
   all_goals go_wp2_with fail
   all_goals go_ret
   all_goals exact⟨rfl,hbf⟩
  ·
   skip
   simp only[Za1] at ho;subst ho;refine⟨rfl,?_⟩;have hb4:=(Zai w 1).trans ((Zad (w.drew) (.cells #[.int .i64 0,.int .i64 0,.int .i64 0,.int .i64 0,.int .i64 0] 199)).mono (Zai w 1).size);have hx4:=heap_alloc_new (w.drew) (.cells #[.int .i64 0,.int .i64 0,.int .i64 0,.int .i64 0,.int .i64 0] 199);have hge:w.heap.size<=(w.drew).heap.size:=(Zai w 1).size;refine Zaz (v:=.pointer (some ⟨(w.drew).heap.size,0,none⟩)) (w':=(w.drew).alloc (.cells #[.int .i64 0,.int .i64 0,.int .i64 0,.int .i64 0,.int .i64 0] 199)) (by go_simp) ⟨hb4,?_⟩;simp only[Zah];obtain⟨bx,hbx⟩:∃ bx,bx=(w.drew).heap.size:=⟨_,rfl⟩;rw[<- hbx] at hx4 hge ⊢;obtain⟨u4,hu4⟩:∃ u,u=(w.drew).alloc (.cells #[.int .i64 0,.int .i64 0,.int .i64 0,.int .i64 0,.int .i64 0] 199):=⟨_,rfl⟩;rw[<- hu4] at hx4 hb4 ⊢;clear hu4 hbx;refine Zal [6] (by kernel_rfl) (fun i hi hS o ho=>?_);simp only[Za6] at hi;subst hi;simp only[Za1] at ho;subst ho;refine⟨rfl,?_⟩;refine Zat (v:=(.tuple #[Za3 N,.bool B])) (R:=fun w'=>Below (u4).heap.size (u4) w') (by go_simp) (HPA.out _ hb4) ?_;intro v5 hv5;have hb5:=hb4.trans (hv5.mono hb4.size);refine⟨hb5,?_⟩;simp only[Zah];unfold Za3;have hx5:=(hv5.block _ (Array.getElem?_eq_some_iff.1 hx4).1).trans hx4;refine Zac 7 rfl rfl (by kernel_rfl) ?_;apply Exists.intro;refine⟨fun w' hw=>?_,?_⟩
   ·
    clear hw;go_simp;rfl
   simp only[Zah];refine Zac 8 rfl rfl (by kernel_rfl) ?_;apply Exists.intro;refine⟨fun w' hw=>?_,?_⟩
   ·
    clear hw;go_simp;rfl
   simp only[Zah];refine Zac 9 rfl rfl (by kernel_rfl) ?_;apply Exists.intro;refine⟨fun w' hw=>?_,?_⟩
   ·
    clear hw;go_simp;rfl
   simp only[Zah];refine Zal [11] (by kernel_rfl) (fun i hi hS o ho=>?_);simp only[Za6] at hi;subst hi;simp only[Za1] at ho;subst ho;refine⟨rfl,?_⟩;obtain⟨e0,e1,e2,e3,e4,fz⟩:=cells5 hx5;refine Za9 (w':=set5 v5 bx 0 N) rfl (Zaw (k:=0) fz e0 e1 e2 e3 e4 _ _ _ _ _) ?_;have hbf:Below w.heap.size w (set5 v5 bx 0 N):=Zbc hb5 hge N;have hxf:=Zbn hx5 N;refine⟨hbf,?_⟩;simp only[Zah];clear e0 e1 e2 e3 e4 fz;refine Zac 12 rfl rfl (by kernel_rfl) ?_;apply Exists.intro;refine⟨fun w' hw=>?_,?_⟩
   ·
    clear hw;go_simp;rfl
   simp only[Zah];refine Zbk (by kernel_rfl) ?_;go_wp2_with fail;refine(HN.out _).mono ?_;rintro x w' ⟨rfl,rfl⟩;cases z
   all_goals go_wp2_with fail
   all_goals go_ret
   all_goals exact⟨rfl,hbf⟩
 ·
  skip
  simp only[Za1] at ho;subst ho;refine⟨rfl,?_⟩;have hb6:=(Zai w 1).trans ((Zad (w.drew) (.cells #[.int .i64 0,.int .i64 0,.int .i64 0,.int .i64 0,.int .i64 0] 199)).mono (Zai w 1).size);have hx6:=heap_alloc_new (w.drew) (.cells #[.int .i64 0,.int .i64 0,.int .i64 0,.int .i64 0,.int .i64 0] 199);have hge:w.heap.size<=(w.drew).heap.size:=(Zai w 1).size;refine Zaz (v:=.pointer (some ⟨(w.drew).heap.size,0,none⟩)) (w':=(w.drew).alloc (.cells #[.int .i64 0,.int .i64 0,.int .i64 0,.int .i64 0,.int .i64 0] 199)) (by go_simp) ⟨hb6,?_⟩;simp only[Zah];obtain⟨bx,hbx⟩:∃ bx,bx=(w.drew).heap.size:=⟨_,rfl⟩;rw[<- hbx] at hx6 hge ⊢;obtain⟨u6,hu6⟩:∃ u,u=(w.drew).alloc (.cells #[.int .i64 0,.int .i64 0,.int .i64 0,.int .i64 0,.int .i64 0] 199):=⟨_,rfl⟩;rw[<- hu6] at hx6 hb6 ⊢;clear hu6 hbx;refine Zal [5] (by kernel_rfl) (fun i hi hS o ho=>?_);simp only[Za6] at hi;subst hi;simp only[Za1] at ho;subst ho;refine⟨rfl,?_⟩;refine Zat (v:=(.int .i64 k)) (R:=fun w'=>u6=w') (by go_simp) (HN.out _) ?_;rintro w' rfl;refine⟨hb6,?_⟩;simp only[Zah];refine Zal [6] (by kernel_rfl) (fun i hi hS o ho=>?_);simp only[Za6] at hi;subst hi;simp only[Za1] at ho;subst ho;refine⟨rfl,?_⟩;refine Zat (v:=(.tuple #[Za3 N,.bool B])) (R:=fun w'=>Below (u6).heap.size (u6) w') (by go_simp) (HPA.out _ hb6) ?_;intro v8 hv8;have hb8:=hb6.trans (hv8.mono hb6.size);refine⟨hb8,?_⟩;simp only[Zah];unfold Za3;have hx8:=(hv8.block _ (Array.getElem?_eq_some_iff.1 hx6).1).trans hx6;refine Zac 7 rfl rfl (by kernel_rfl) ?_;apply Exists.intro;refine⟨fun w' hw=>?_,?_⟩
  ·
   clear hw;go_simp;rfl
  simp only[Zah];refine Zac 8 rfl rfl (by kernel_rfl) ?_;apply Exists.intro;refine⟨fun w' hw=>?_,?_⟩
  ·
   clear hw;go_simp;rfl
  simp only[Zah];refine Zac 9 rfl rfl (by kernel_rfl) ?_;apply Exists.intro;refine⟨fun w' hw=>?_,?_⟩
  ·
   clear hw;go_simp;rfl
  simp only[Zah];refine Zal [11] (by kernel_rfl) (fun i hi hS o ho=>?_);simp only[Za6] at hi;subst hi;simp only[Za1] at ho;subst ho;refine⟨rfl,?_⟩;obtain⟨e0,e1,e2,e3,e4,fz⟩:=cells5 hx8;refine Za9 (w':=set5 v8 bx 0 N) rfl (Zaw (k:=0) fz e0 e1 e2 e3 e4 _ _ _ _ _) ?_;have hbf:Below w.heap.size w (set5 v8 bx 0 N):=Zbc hb8 hge N;have hxf:=Zbn hx8 N;refine⟨hbf,?_⟩;simp only[Zah];clear e0 e1 e2 e3 e4 fz;refine Zac 12 rfl rfl (by kernel_rfl) ?_;apply Exists.intro;refine⟨fun w' hw=>?_,?_⟩
  ·
   clear hw;go_simp;rfl
  simp only[Zah];refine Zbk (by kernel_rfl) ?_;go_wp2_with fail;refine(HN.out _).mono ?_;rintro x w' ⟨rfl,rfl⟩;cases z
  all_goals go_wp2_with fail
  all_goals go_ret
  all_goals exact⟨rfl,hbf⟩
open Go.RowKit
theorem Zbl {o:Own} {w:World} {sb:Nat} {d:Zag} {s:Za5} (h:Zao o w sb d s) (hlt:Zak o w) (f:Nat) (hf:f<eMax) (lv:Int) (hbig:d.level.length<1000000) :
 Calls Tryz.prog 202 #[.pointer (some ⟨sb,0,none⟩),.int .i64 f,.int .i64 lv] w fun x w'=>x=.returned (.bool (decide (enode f=0)||(d.pool.tk (enode f)&&decide (lv<d.levelOf (d.pool.has (enode f)).v))))/\Below w.heap.size w w':=by
 obtain⟨c0,c1,c2,c3,c4,f0⟩:=cells5 h.blk;have lsb:sb<w.heap.size:=Zaa c0;have HC1:Hid (∀ W:World,Below w.heap.size w W->W.cell? ⟨sb,1,none⟩=some (.pointer (some ⟨s.pb,0,none⟩))):=Hd (fun W hb=>(hb.cell (p:=⟨sb,1,none⟩) lsb).trans c1);have HPA:Hid (∀ W:World,Below w.heap.size w W->Calls Tryz.prog 171 #[.pointer (some ⟨s.pb,0,none⟩),.int .i64 (enode f:Nat)] W fun x w'=>x=.returned (.tuple #[Za3 (d.pool.has (enode f)),.bool (d.pool.tk (enode f))])/\Below W.heap.size W w') :=
  Hd (fun W hb=>Zc4 o s.pb d.pool (enode f) W (h.pool.below hb hlt) (hlt.mono hb.size))
 have HLV:Hid (∀ W:World,Below w.heap.size w W->Calls Tryz.prog 83 #[.pointer (some ⟨sb,0,none⟩),.int .i64 ((d.pool.has (enode f)).v:Nat)] W fun x w'=>x=.returned (.int .i64 (d.levelOf (d.pool.has (enode f)).v))/\W=w') :=
  Hd (fun W hb=>Zca (h.below hlt hb) _ hbig)
 have HN:=Hd (fun W=>Zcn f W hf);obtain⟨N,hN⟩:∃ N,N=d.pool.has (enode f):=⟨_,rfl⟩;obtain⟨B,hB⟩:∃ B,B=d.pool.tk (enode f):=⟨_,rfl⟩;obtain⟨k,hk⟩:∃ k,k=enode f:=⟨_,rfl⟩;rw[<- hN] at HPA HLV;rw[<- hB,<- hk] at HPA;rw[<- hk] at HN;rw[<- hB,<- hN,<- hk];obtain⟨M,hM⟩:∃ M,M=d.levelOf N.v:=⟨_,rfl⟩;rw[<- hM] at HLV ⊢;obtain⟨z,hz0⟩:∃ z:Bool,z=decide (k=0):=⟨_,rfl⟩;have hk0:(((k:Nat):Int) == 0)=z:=by rw[hz0];exact Yah k
 rw[<- hz0];clear h hlt c0 c1 c2 c3 c4 f0 hN hB hk hf hz0 hM
 go_enter Tryz.func202,Tryz.ntmps202
 go_upto_region 1 with fail;refine Zbo (fun W:World=>Below w.heap.size w W) 13 (by kernel_rfl) (Zai w 1) ?_;refine Zac 0 rfl rfl (by kernel_rfl) ?_;apply Exists.intro;refine⟨fun w' hw=>?_,?_⟩
 ·
  have hc1:=HC1.out w' hw;go_simp;rfl
 simp only[Zah];refine Zac 1 rfl rfl (by kernel_rfl) ?_;apply Exists.intro;refine⟨fun w' hw=>?_,?_⟩
 ·
  have hc1:=HC1.out w' hw;go_simp;rfl
 simp only[Zah];refine Zac 2 rfl rfl (by kernel_rfl) ?_;apply Exists.intro;refine⟨fun w' hw=>?_,?_⟩
 ·
  have hc1:=HC1.out w' hw;go_simp;rfl
 simp only[Zah];refine Zac 3 rfl rfl (by kernel_rfl) ?_;apply Exists.intro;refine⟨fun w' hw=>?_,?_⟩
 ·
  have hc1:=HC1.out w' hw;go_simp;rfl
 simp only[Zah];refine Zac 4 rfl rfl (by kernel_rfl) ?_;apply Exists.intro;refine⟨fun w' hw=>?_,?_⟩
 ·
  have hc1:=HC1.out w' hw;go_simp;rfl
 simp only[Zah];refine Zal [5,10] (by kernel_rfl) (fun i hi hS o ho=>?_);simp only[Za6] at hi;rcases hi with rfl|rfl
 ·
  skip
  simp only[Za1] at ho;subst ho;refine⟨rfl,?_⟩;refine Zat (v:=(.int .i64 k)) (R:=fun w'=>w.drew=w') (by go_simp) (HN.out _) ?_;rintro w' rfl;refine⟨(Zai w 1),?_⟩;simp only[Zah];refine Zal [6,10] (by kernel_rfl) (fun i hi hS o ho=>?_);simp only[Za6] at hi;rcases hi with rfl|rfl
  ·
   skip
   simp only[Za1] at ho;subst ho;refine⟨rfl,?_⟩;refine Zat (v:=(.tuple #[Za3 N,.bool B])) (R:=fun w'=>Below (w.drew).heap.size (w.drew) w') (by go_simp) (HPA.out _ (Zai w 1)) ?_;intro v2 hv2;have hb2:=(Zai w 1).trans (hv2.mono (Zai w 1).size);refine⟨hb2,?_⟩;simp only[Zah];unfold Za3;refine Zac 7 rfl rfl (by kernel_rfl) ?_;apply Exists.intro;refine⟨fun w' hw=>?_,?_⟩
   ·
    clear hw;go_simp;rfl
   simp only[Zah];refine Zac 8 rfl rfl (by kernel_rfl) ?_;apply Exists.intro;refine⟨fun w' hw=>?_,?_⟩
   ·
    clear hw;go_simp;rfl
   simp only[Zah];refine Zac 9 rfl rfl (by kernel_rfl) ?_;apply Exists.intro;refine⟨fun w' hw=>?_,?_⟩
   ·
    clear hw;go_simp;rfl
   simp only[Zah];refine Zal [10] (by kernel_rfl) (fun i hi hS o ho=>?_);simp only[Za6] at hi;subst hi;simp only[Za1] at ho;subst ho;refine⟨rfl,?_⟩;have hb3:=hb2.trans ((Zad (v2) (.cells #[.int .i64 0,.int .i64 0,.int .i64 0,.int .i64 0,.int .i64 0] 199)).mono hb2.size);have hx3:=heap_alloc_new (v2) (.cells #[.int .i64 0,.int .i64 0,.int .i64 0,.int .i64 0,.int .i64 0] 199);have hge:w.heap.size<=(v2).heap.size:=hb2.size;refine Zaz (v:=.pointer (some ⟨(v2).heap.size,0,none⟩)) (w':=(v2).alloc (.cells #[.int .i64 0,.int .i64 0,.int .i64 0,.int .i64 0,.int .i64 0] 199)) (by go_simp) ⟨hb3,?_⟩;simp only[Zah];obtain⟨bx,hbx⟩:∃ bx,bx=(v2).heap.size:=⟨_,rfl⟩;rw[<- hbx] at hx3 hge ⊢;obtain⟨u3,hu3⟩:∃ u,u=(v2).alloc (.cells #[.int .i64 0,.int .i64 0,.int .i64 0,.int .i64 0,.int .i64 0] 199):=⟨_,rfl⟩;rw[<- hu3] at hx3 hb3 ⊢;clear hu3 hbx;refine Zal [11] (by kernel_rfl) (fun i hi hS o ho=>?_);simp only[Za6] at hi;subst hi;simp only[Za1] at ho;subst ho;refine⟨rfl,?_⟩;obtain⟨e0,e1,e2,e3,e4,fz⟩:=cells5 hx3;refine Za9 (w':=set5 u3 bx 0 N) rfl (Zaw (k:=0) fz e0 e1 e2 e3 e4 _ _ _ _ _) ?_;have hbf:Below w.heap.size w (set5 u3 bx 0 N):=Zbc hb3 hge N;have hxf:=Zbn hx3 N;refine⟨hbf,?_⟩;simp only[Zah];clear e0 e1 e2 e3 e4 fz;refine Zac 12 rfl rfl (by kernel_rfl) ?_;apply Exists.intro;refine⟨fun w' hw=>?_,?_⟩
   ·
    clear hw;go_simp;rfl
   simp only[Zah];refine Zbk (by kernel_rfl) ?_;obtain⟨y0,y1,y2,y3,y4,yz⟩:=cells5 hxf;go_wp2_with fail;refine(HN.out _).mono ?_;rintro x w' ⟨rfl,rfl⟩;cases z
   ·
    cases B
    ·
     go_wp2_with fail;go_ret;exact⟨rfl,hbf⟩
    ·
     go_wp2_with fail;refine(HLV.out _ hbf).mono ?_;rintro x w' ⟨rfl,rfl⟩;go_wp2_with fail;go_ret;exact⟨rfl,hbf⟩
   ·
    go_wp2_with fail;go_ret;exact⟨rfl,hbf⟩
  ·
   skip
   simp only[Za1] at ho;subst ho;refine⟨rfl,?_⟩;have hb4:=(Zai w 1).trans ((Zad (w.drew) (.cells #[.int .i64 0,.int .i64 0,.int .i64 0,.int .i64 0,.int .i64 0] 199)).mono (Zai w 1).size);have hx4:=heap_alloc_new (w.drew) (.cells #[.int .i64 0,.int .i64 0,.int .i64 0,.int .i64 0,.int .i64 0] 199);have hge:w.heap.size<=(w.drew).heap.size:=(Zai w 1).size;refine Zaz (v:=.pointer (some ⟨(w.drew).heap.size,0,none⟩)) (w':=(w.drew).alloc (.cells #[.int .i64 0,.int .i64 0,.int .i64 0,.int .i64 0,.int .i64 0] 199)) (by go_simp) ⟨hb4,?_⟩;simp only[Zah];obtain⟨bx,hbx⟩:∃ bx,bx=(w.drew).heap.size:=⟨_,rfl⟩;rw[<- hbx] at hx4 hge ⊢;obtain⟨u4,hu4⟩:∃ u,u=(w.drew).alloc (.cells #[.int .i64 0,.int .i64 0,.int .i64 0,.int .i64 0,.int .i64 0] 199):=⟨_,rfl⟩;rw[<- hu4] at hx4 hb4 ⊢;clear hu4 hbx;refine Zal [6] (by kernel_rfl) (fun i hi hS o ho=>?_);simp only[Za6] at hi;subst hi;simp only[Za1] at ho;subst ho;refine⟨rfl,?_⟩;refine Zat (v:=(.tuple #[Za3 N,.bool B])) (R:=fun w'=>Below (u4).heap.size (u4) w') (by go_simp) (HPA.out _ hb4) ?_;intro v5 hv5;have hb5:=hb4.trans (hv5.mono hb4.size);refine⟨hb5,?_⟩;simp only[Zah];unfold Za3;have hx5:=(hv5.block _ (Array.getElem?_eq_some_iff.1 hx4).1).trans hx4;refine Zac 7 rfl rfl (by kernel_rfl) ?_;apply Exists.intro;refine⟨fun w' hw=>?_,?_⟩
   ·
    clear hw;go_simp;rfl
   simp only[Zah];refine Zac 8 rfl rfl (by kernel_rfl) ?_;apply Exists.intro;refine⟨fun w' hw=>?_,?_⟩
   ·
    clear hw;go_simp;rfl
   simp only[Zah];refine Zac 9 rfl rfl (by kernel_rfl) ?_;apply Exists.intro;refine⟨fun w' hw=>?_,?_⟩
   ·
    clear hw;go_simp;rfl
   simp only[Zah];refine Zal [11] (by kernel_rfl) (fun i hi hS o ho=>?_);simp only[Za6] at hi;subst hi;simp only[Za1] at ho;subst ho;refine⟨rfl,?_⟩;obtain⟨e0,e1,e2,e3,e4,fz⟩:=cells5 hx5;refine Za9 (w':=set5 v5 bx 0 N) rfl (Zaw (k:=0) fz e0 e1 e2 e3 e4 _ _ _ _ _) ?_;have hbf:Below w.heap.size w (set5 v5 bx 0 N):=Zbc hb5 hge N;have hxf:=Zbn hx5 N;refine⟨hbf,?_⟩;simp only[Zah];clear e0 e1 e2 e3 e4 fz;refine Zac 12 rfl rfl (by kernel_rfl) ?_;apply Exists.intro;refine⟨fun w' hw=>?_,?_⟩
   ·
    clear hw;go_simp;rfl
   simp only[Zah];refine Zbk (by kernel_rfl) ?_;obtain⟨y0,y1,y2,y3,y4,yz⟩:=cells5 hxf;go_wp2_with fail;refine(HN.out _).mono ?_;rintro x w' ⟨rfl,rfl⟩;cases z
   ·
    cases B
    ·
     go_wp2_with fail;go_ret;exact⟨rfl,hbf⟩
    ·
     go_wp2_with fail;refine(HLV.out _ hbf).mono ?_;rintro x w' ⟨rfl,rfl⟩;go_wp2_with fail;go_ret;exact⟨rfl,hbf⟩
   ·
    go_wp2_with fail;go_ret;exact⟨rfl,hbf⟩
 ·
  skip
  simp only[Za1] at ho;subst ho;refine⟨rfl,?_⟩;have hb6:=(Zai w 1).trans ((Zad (w.drew) (.cells #[.int .i64 0,.int .i64 0,.int .i64 0,.int .i64 0,.int .i64 0] 199)).mono (Zai w 1).size);have hx6:=heap_alloc_new (w.drew) (.cells #[.int .i64 0,.int .i64 0,.int .i64 0,.int .i64 0,.int .i64 0] 199);have hge:w.heap.size<=(w.drew).heap.size:=(Zai w 1).size;refine Zaz (v:=.pointer (some ⟨(w.drew).heap.size,0,none⟩)) (w':=(w.drew).alloc (.cells #[.int .i64 0,.int .i64 0,.int .i64 0,.int .i64 0,.int .i64 0] 199)) (by go_simp) ⟨hb6,?_⟩;simp only[Zah];obtain⟨bx,hbx⟩:∃ bx,bx=(w.drew).heap.size:=⟨_,rfl⟩;rw[<- hbx] at hx6 hge ⊢;obtain⟨u6,hu6⟩:∃ u,u=(w.drew).alloc (.cells #[.int .i64 0,.int .i64 0,.int .i64 0,.int .i64 0,.int .i64 0] 199):=⟨_,rfl⟩;rw[<- hu6] at hx6 hb6 ⊢;clear hu6 hbx;refine Zal [5] (by kernel_rfl) (fun i hi hS o ho=>?_);simp only[Za6] at hi;subst hi;simp only[Za1] at ho;subst ho;refine⟨rfl,?_⟩;refine Zat (v:=(.int .i64 k)) (R:=fun w'=>u6=w') (by go_simp) (HN.out _) ?_;rintro w' rfl;refine⟨hb6,?_⟩;simp only[Zah];refine Zal [6] (by kernel_rfl) (fun i hi hS o ho=>?_);simp only[Za6] at hi;subst hi;simp only[Za1] at ho;subst ho;refine⟨rfl,?_⟩;refine Zat (v:=(.tuple #[Za3 N,.bool B])) (R:=fun w'=>Below (u6).heap.size (u6) w') (by go_simp) (HPA.out _ hb6) ?_;intro v8 hv8;have hb8:=hb6.trans (hv8.mono hb6.size);refine⟨hb8,?_⟩;simp only[Zah];unfold Za3;have hx8:=(hv8.block _ (Array.getElem?_eq_some_iff.1 hx6).1).trans hx6;refine Zac 7 rfl rfl (by kernel_rfl) ?_;apply Exists.intro;refine⟨fun w' hw=>?_,?_⟩
  ·
   clear hw;go_simp;rfl
  simp only[Zah];refine Zac 8 rfl rfl (by kernel_rfl) ?_;apply Exists.intro;refine⟨fun w' hw=>?_,?_⟩
  ·
   clear hw;go_simp;rfl
  simp only[Zah];refine Zac 9 rfl rfl (by kernel_rfl) ?_;apply Exists.intro;refine⟨fun w' hw=>?_,?_⟩
  ·
   clear hw;go_simp;rfl
  simp only[Zah];refine Zal [11] (by kernel_rfl) (fun i hi hS o ho=>?_);simp only[Za6] at hi;subst hi;simp only[Za1] at ho;subst ho;refine⟨rfl,?_⟩;obtain⟨e0,e1,e2,e3,e4,fz⟩:=cells5 hx8;refine Za9 (w':=set5 v8 bx 0 N) rfl (Zaw (k:=0) fz e0 e1 e2 e3 e4 _ _ _ _ _) ?_;have hbf:Below w.heap.size w (set5 v8 bx 0 N):=Zbc hb8 hge N;have hxf:=Zbn hx8 N;refine⟨hbf,?_⟩;simp only[Zah];clear e0 e1 e2 e3 e4 fz;refine Zac 12 rfl rfl (by kernel_rfl) ?_;apply Exists.intro;refine⟨fun w' hw=>?_,?_⟩
  ·
   clear hw;go_simp;rfl
  simp only[Zah];refine Zbk (by kernel_rfl) ?_;obtain⟨y0,y1,y2,y3,y4,yz⟩:=cells5 hxf;go_wp2_with fail;refine(HN.out _).mono ?_;rintro x w' ⟨rfl,rfl⟩;cases z
  ·
   cases B
   ·
    go_wp2_with fail;go_ret;exact⟨rfl,hbf⟩
   ·
    go_wp2_with fail;refine(HLV.out _ hbf).mono ?_;rintro x w' ⟨rfl,rfl⟩;go_wp2_with fail;go_ret;exact⟨rfl,hbf⟩
  ·
   go_wp2_with fail;go_ret;exact⟨rfl,hbf⟩
open Go.RowKit
theorem Zb9 {P:Program} {f:FuncId} {args:Array Value} {w:World} {n:Nat} {v:Value}
 (h:Calls P f args (w.drewN n) fun e w'=>e=.returned v/\w.drewN n=w'):Calls P f args (w.drewN n) fun e w''=>e=.returned v/\∃ m,w''=w.drewN m :=
 h.mono fun _ _ ⟨he,hm⟩=>⟨he,n,hm.symm⟩
theorem Zcu {fn:Func} {t u v x:Tmp} (h:fn.results=#[.tmp t,.tmp u,.tmp v,.tmp x]) (tmps:Array Value) (P:Program) (w:World) :
 (results fn tmps).run P w=.ok (.tuple #[tmps.getD t undef,tmps.getD u undef,tmps.getD v undef,tmps.getD x undef]) w:=by
 simp[results,h]
theorem Zkq {o:Own} {w:World} {sb:Nat} {d:Zag} {s:Za5} (h:Zao o w sb d s) (hlt:Zak o w) (f:Nat) (hf:f<eMax) (hlo:(d.pool.has (enode f)).lo<eMax) (hhi:(d.pool.has (enode f)).hi<eMax) :
 Calls Tryz.prog 164 #[.pointer (some ⟨sb,0,none⟩),.int .i64 f] w fun x w'=>x=.returned (if d.pool.tk (enode f)=true then .tuple #[.int .i64 (d.pool.has (enode f)).v,.int .i64 (eflip (d.pool.has (enode f)).lo (eneg f):Nat),.int .i64 (eflip (d.pool.has (enode f)).hi (eneg f):Nat),.bool true] else .tuple #[.int .i64 (-1),.int .i64 0,.int .i64 0,.bool false])/\Below w.heap.size w w':=by
 obtain⟨c0,c1,c2,c3,c4,f0⟩:=cells5 h.blk;have lsb:sb<w.heap.size:=Zaa c0;have HC1:Hid (∀ W:World,Below w.heap.size w W->W.cell? ⟨sb,1,none⟩=some (.pointer (some ⟨s.pb,0,none⟩))):=Hd (fun W hb=>(hb.cell (p:=⟨sb,1,none⟩) lsb).trans c1);have HPA:Hid (∀ W:World,Below w.heap.size w W->Calls Tryz.prog 171 #[.pointer (some ⟨s.pb,0,none⟩),.int .i64 (enode f:Nat)] W fun x w'=>x=.returned (.tuple #[Za3 (d.pool.has (enode f)),.bool (d.pool.tk (enode f))])/\Below W.heap.size W w') :=
  Hd (fun W hb=>Zc4 o s.pb d.pool (enode f) W (h.pool.below hb hlt) (hlt.mono hb.size))
 have hz:(0:Int)<=f:=by omega
 have HG:=Hd (fun W=>Zki f W hf);have HFL:=Hd (fun W b=>Zda (d.pool.has (enode f)).lo b W hlo);have HFH:=Hd (fun W b=>Zda (d.pool.has (enode f)).hi b W hhi);have HN:=Hd (fun W=>Zcn f W hf);obtain⟨N,hN⟩:∃ N,N=d.pool.has (enode f):=⟨_,rfl⟩;obtain⟨B,hB⟩:∃ B,B=d.pool.tk (enode f):=⟨_,rfl⟩;obtain⟨k,hk⟩:∃ k,k=enode f:=⟨_,rfl⟩;rw[<- hN] at HPA HFL HFH;rw[<- hB,<- hk] at HPA;rw[<- hk] at HN;rw[<- hB,<- hN];obtain⟨g,hg⟩:∃ g:Bool,g=eneg f:=⟨_,rfl⟩;rw[<- hg] at HG ⊢;have HFL:=Hd (fun W=>HFL.out W g);have HFH:=Hd (fun W=>HFH.out W g);obtain⟨A,hA⟩:∃ A,A=eflip N.lo g:=⟨_,rfl⟩;obtain⟨C,hC⟩:∃ C,C=eflip N.hi g:=⟨_,rfl⟩;rw[<- hA] at HFL ⊢;rw[<- hC] at HFH ⊢;obtain⟨RV,hRV⟩:∃ RV:Value,RV=(if B=true then .tuple #[.int .i64 N.v,.int .i64 (A:Nat),.int .i64 (C:Nat),.bool true] else .tuple #[.int .i64 (-1),.int .i64 0,.int .i64 0,.bool false]):=⟨_,rfl⟩;rw[<- hRV];have HRV:=Hd hRV;clear h hlt c0 c1 c2 c3 c4 f0 hN hB hk hf hg hA hC hlo hhi hRV
 go_enter Tryz.func164,Tryz.ntmps164
 go_upto_region 3 with fail;refine Zbo (fun W:World=>Below w.heap.size w W) 13 (by kernel_rfl) (Zai w 1) ?_;refine Zac 0 rfl rfl (by kernel_rfl) ?_;apply Exists.intro;refine⟨fun w' hw=>?_,?_⟩
 ·
  have hc1:=HC1.out w' hw;go_simp;rfl
 simp only[Zah];refine Zac 1 rfl rfl (by kernel_rfl) ?_;apply Exists.intro;refine⟨fun w' hw=>?_,?_⟩
 ·
  have hc1:=HC1.out w' hw;go_simp;rfl
 simp only[Zah];refine Zac 2 rfl rfl (by kernel_rfl) ?_;apply Exists.intro;refine⟨fun w' hw=>?_,?_⟩
 ·
  have hc1:=HC1.out w' hw;go_simp;rfl
 simp only[Zah];refine Zac 3 rfl rfl (by kernel_rfl) ?_;apply Exists.intro;refine⟨fun w' hw=>?_,?_⟩
 ·
  have hc1:=HC1.out w' hw;go_simp;rfl
 simp only[Zah];refine Zac 4 rfl rfl (by kernel_rfl) ?_;apply Exists.intro;refine⟨fun w' hw=>?_,?_⟩
 ·
  have hc1:=HC1.out w' hw;go_simp;rfl
 simp only[Zah];refine Zal [5,10] (by kernel_rfl) (fun i hi hS o ho=>?_);simp only[Za6] at hi;rcases hi with rfl|rfl
 ·
  skip
  simp only[Za1] at ho;subst ho;refine⟨rfl,?_⟩;refine Zat (v:=(.int .i64 k)) (R:=fun w'=>w.drew=w') (by go_simp) (HN.out _) ?_;rintro w' rfl;refine⟨(Zai w 1),?_⟩;simp only[Zah];refine Zal [6,10] (by kernel_rfl) (fun i hi hS o ho=>?_);simp only[Za6] at hi;rcases hi with rfl|rfl
  ·
   skip
   simp only[Za1] at ho;subst ho;refine⟨rfl,?_⟩;refine Zat (v:=(.tuple #[Za3 N,.bool B])) (R:=fun w'=>Below (w.drew).heap.size (w.drew) w') (by go_simp) (HPA.out _ (Zai w 1)) ?_;intro v2 hv2;have hb2:=(Zai w 1).trans (hv2.mono (Zai w 1).size);refine⟨hb2,?_⟩;simp only[Zah];unfold Za3;refine Zac 7 rfl rfl (by kernel_rfl) ?_;apply Exists.intro;refine⟨fun w' hw=>?_,?_⟩
   ·
    clear hw;go_simp;rfl
   simp only[Zah];refine Zac 8 rfl rfl (by kernel_rfl) ?_;apply Exists.intro;refine⟨fun w' hw=>?_,?_⟩
   ·
    clear hw;go_simp;rfl
   simp only[Zah];refine Zac 9 rfl rfl (by kernel_rfl) ?_;apply Exists.intro;refine⟨fun w' hw=>?_,?_⟩
   ·
    clear hw;go_simp;rfl
   simp only[Zah];refine Zal [10] (by kernel_rfl) (fun i hi hS o ho=>?_);simp only[Za6] at hi;subst hi;simp only[Za1] at ho;subst ho;refine⟨rfl,?_⟩;have hb3:=hb2.trans ((Zad (v2) (.cells #[.int .i64 0,.int .i64 0,.int .i64 0,.int .i64 0,.int .i64 0] 199)).mono hb2.size);have hx3:=heap_alloc_new (v2) (.cells #[.int .i64 0,.int .i64 0,.int .i64 0,.int .i64 0,.int .i64 0] 199);have hge:w.heap.size<=(v2).heap.size:=hb2.size;refine Zaz (v:=.pointer (some ⟨(v2).heap.size,0,none⟩)) (w':=(v2).alloc (.cells #[.int .i64 0,.int .i64 0,.int .i64 0,.int .i64 0,.int .i64 0] 199)) (by go_simp) ⟨hb3,?_⟩;simp only[Zah];obtain⟨bx,hbx⟩:∃ bx,bx=(v2).heap.size:=⟨_,rfl⟩;rw[<- hbx] at hx3 hge ⊢;obtain⟨u3,hu3⟩:∃ u,u=(v2).alloc (.cells #[.int .i64 0,.int .i64 0,.int .i64 0,.int .i64 0,.int .i64 0] 199):=⟨_,rfl⟩;rw[<- hu3] at hx3 hb3 ⊢;clear hu3 hbx;refine Zal [11] (by kernel_rfl) (fun i hi hS o ho=>?_);simp only[Za6] at hi;subst hi;simp only[Za1] at ho;subst ho;refine⟨rfl,?_⟩;obtain⟨e0,e1,e2,e3,e4,fz⟩:=cells5 hx3;refine Za9 (w':=set5 u3 bx 0 N) rfl (Zaw (k:=0) fz e0 e1 e2 e3 e4 _ _ _ _ _) ?_;have hbf:Below w.heap.size w (set5 u3 bx 0 N):=Zbc hb3 hge N;have hxf:=Zbn hx3 N;refine⟨hbf,?_⟩;simp only[Zah];clear e0 e1 e2 e3 e4 fz;refine Zac 12 rfl rfl (by kernel_rfl) ?_;apply Exists.intro;refine⟨fun w' hw=>?_,?_⟩
   ·
    clear hw;go_simp;rfl
   simp only[Zah];refine Zbk (by kernel_rfl) ?_;obtain⟨y0,y1,y2,y3,y4,yz⟩:=cells5 hxf;clear HN HPA HC1;cases B
   ·
    go_wp2_with fail;refine bodyPost_ret (Zcu rfl _ _ _) rfl ⟨?_,hbf⟩;rw[HRV.out];rfl
   ·
    go_upto_region 6 with fail
    go_quiet ((first|(with_reducible exact Zb9 (HG.out _))|(with_reducible exact Zb9 (HFL.out _))|(with_reducible exact Zb9 (HFH.out _))))
    go_wp2_with fail;refine bodyPost_ret (Zcu rfl _ _ _) rfl ⟨?_,Zaj hbf _⟩;rw[HRV.out];rfl
  ·
   skip
   simp only[Za1] at ho;subst ho;refine⟨rfl,?_⟩;have hb4:=(Zai w 1).trans ((Zad (w.drew) (.cells #[.int .i64 0,.int .i64 0,.int .i64 0,.int .i64 0,.int .i64 0] 199)).mono (Zai w 1).size);have hx4:=heap_alloc_new (w.drew) (.cells #[.int .i64 0,.int .i64 0,.int .i64 0,.int .i64 0,.int .i64 0] 199);have hge:w.heap.size<=(w.drew).heap.size:=(Zai w 1).size;refine Zaz (v:=.pointer (some ⟨(w.drew).heap.size,0,none⟩)) (w':=(w.drew).alloc (.cells #[.int .i64 0,.int .i64 0,.int .i64 0,.int .i64 0,.int .i64 0] 199)) (by go_simp) ⟨hb4,?_⟩;simp only[Zah];obtain⟨bx,hbx⟩:∃ bx,bx=(w.drew).heap.size:=⟨_,rfl⟩;rw[<- hbx] at hx4 hge ⊢;obtain⟨u4,hu4⟩:∃ u,u=(w.drew).alloc (.cells #[.int .i64 0,.int .i64 0,.int .i64 0,.int .i64 0,.int .i64 0] 199):=⟨_,rfl⟩;rw[<- hu4] at hx4 hb4 ⊢;clear hu4 hbx;refine Zal [6] (by kernel_rfl) (fun i hi hS o ho=>?_);simp only[Za6] at hi;subst hi;simp only[Za1] at ho;subst ho;refine⟨rfl,?_⟩;refine Zat (v:=(.tuple #[Za3 N,.bool B])) (R:=fun w'=>Below (u4).heap.size (u4) w') (by go_simp) (HPA.out _ hb4) ?_;intro v5 hv5;have hb5:=hb4.trans (hv5.mono hb4.size);refine⟨hb5,?_⟩;simp only[Zah];unfold Za3;have hx5:=(hv5.block _ (Array.getElem?_eq_some_iff.1 hx4).1).trans hx4;refine Zac 7 rfl rfl (by kernel_rfl) ?_;apply Exists.intro;refine⟨fun w' hw=>?_,?_⟩
   ·
    clear hw;go_simp;rfl
   simp only[Zah];refine Zac 8 rfl rfl (by kernel_rfl) ?_;apply Exists.intro;refine⟨fun w' hw=>?_,?_⟩
   ·
    clear hw;go_simp;rfl
   simp only[Zah];refine Zac 9 rfl rfl (by kernel_rfl) ?_;apply Exists.intro;refine⟨fun w' hw=>?_,?_⟩
   ·
    clear hw;go_simp;rfl
   simp only[Zah];refine Zal [11] (by kernel_rfl) (fun i hi hS o ho=>?_);simp only[Za6] at hi;subst hi;simp only[Za1] at ho;subst ho;refine⟨rfl,?_⟩;obtain⟨e0,e1,e2,e3,e4,fz⟩:=cells5 hx5;refine Za9 (w':=set5 v5 bx 0 N) rfl (Zaw (k:=0) fz e0 e1 e2 e3 e4 _ _ _ _ _) ?_;have hbf:Below w.heap.size w (set5 v5 bx 0 N):=Zbc hb5 hge N;have hxf:=Zbn hx5 N;refine⟨hbf,?_⟩;simp only[Zah];clear e0 e1 e2 e3 e4 fz;refine Zac 12 rfl rfl (by kernel_rfl) ?_;apply Exists.intro;refine⟨fun w' hw=>?_,?_⟩
   ·
    clear hw;go_simp;rfl
   simp only[Zah];refine Zbk (by kernel_rfl) ?_;obtain⟨y0,y1,y2,y3,y4,yz⟩:=cells5 hxf;clear HN HPA HC1;cases B
   ·
    go_wp2_with fail;refine bodyPost_ret (Zcu rfl _ _ _) rfl ⟨?_,hbf⟩;rw[HRV.out];rfl
   ·
    go_upto_region 6 with fail
    go_quiet ((first|(with_reducible exact Zb9 (HG.out _))|(with_reducible exact Zb9 (HFL.out _))|(with_reducible exact Zb9 (HFH.out _))))
    go_wp2_with fail;refine bodyPost_ret (Zcu rfl _ _ _) rfl ⟨?_,Zaj hbf _⟩;rw[HRV.out];rfl
 ·
  skip
  simp only[Za1] at ho;subst ho;refine⟨rfl,?_⟩;have hb6:=(Zai w 1).trans ((Zad (w.drew) (.cells #[.int .i64 0,.int .i64 0,.int .i64 0,.int .i64 0,.int .i64 0] 199)).mono (Zai w 1).size);have hx6:=heap_alloc_new (w.drew) (.cells #[.int .i64 0,.int .i64 0,.int .i64 0,.int .i64 0,.int .i64 0] 199);have hge:w.heap.size<=(w.drew).heap.size:=(Zai w 1).size;refine Zaz (v:=.pointer (some ⟨(w.drew).heap.size,0,none⟩)) (w':=(w.drew).alloc (.cells #[.int .i64 0,.int .i64 0,.int .i64 0,.int .i64 0,.int .i64 0] 199)) (by go_simp) ⟨hb6,?_⟩;simp only[Zah];obtain⟨bx,hbx⟩:∃ bx,bx=(w.drew).heap.size:=⟨_,rfl⟩;rw[<- hbx] at hx6 hge ⊢;obtain⟨u6,hu6⟩:∃ u,u=(w.drew).alloc (.cells #[.int .i64 0,.int .i64 0,.int .i64 0,.int .i64 0,.int .i64 0] 199):=⟨_,rfl⟩;rw[<- hu6] at hx6 hb6 ⊢;clear hu6 hbx;refine Zal [5] (by kernel_rfl) (fun i hi hS o ho=>?_);simp only[Za6] at hi;subst hi;simp only[Za1] at ho;subst ho;refine⟨rfl,?_⟩;refine Zat (v:=(.int .i64 k)) (R:=fun w'=>u6=w') (by go_simp) (HN.out _) ?_;rintro w' rfl;refine⟨hb6,?_⟩;simp only[Zah];refine Zal [6] (by kernel_rfl) (fun i hi hS o ho=>?_);simp only[Za6] at hi;subst hi;simp only[Za1] at ho;subst ho;refine⟨rfl,?_⟩;refine Zat (v:=(.tuple #[Za3 N,.bool B])) (R:=fun w'=>Below (u6).heap.size (u6) w') (by go_simp) (HPA.out _ hb6) ?_;intro v8 hv8;have hb8:=hb6.trans (hv8.mono hb6.size);refine⟨hb8,?_⟩;simp only[Zah];unfold Za3;have hx8:=(hv8.block _ (Array.getElem?_eq_some_iff.1 hx6).1).trans hx6;refine Zac 7 rfl rfl (by kernel_rfl) ?_;apply Exists.intro;refine⟨fun w' hw=>?_,?_⟩
  ·
   clear hw;go_simp;rfl
  simp only[Zah];refine Zac 8 rfl rfl (by kernel_rfl) ?_;apply Exists.intro;refine⟨fun w' hw=>?_,?_⟩
  ·
   clear hw;go_simp;rfl
  simp only[Zah];refine Zac 9 rfl rfl (by kernel_rfl) ?_;apply Exists.intro;refine⟨fun w' hw=>?_,?_⟩
  ·
   clear hw;go_simp;rfl
  simp only[Zah];refine Zal [11] (by kernel_rfl) (fun i hi hS o ho=>?_);simp only[Za6] at hi;subst hi;simp only[Za1] at ho;subst ho;refine⟨rfl,?_⟩;obtain⟨e0,e1,e2,e3,e4,fz⟩:=cells5 hx8;refine Za9 (w':=set5 v8 bx 0 N) rfl (Zaw (k:=0) fz e0 e1 e2 e3 e4 _ _ _ _ _) ?_;have hbf:Below w.heap.size w (set5 v8 bx 0 N):=Zbc hb8 hge N;have hxf:=Zbn hx8 N;refine⟨hbf,?_⟩;simp only[Zah];clear e0 e1 e2 e3 e4 fz;refine Zac 12 rfl rfl (by kernel_rfl) ?_;apply Exists.intro;refine⟨fun w' hw=>?_,?_⟩
  ·
   clear hw;go_simp;rfl
  simp only[Zah];refine Zbk (by kernel_rfl) ?_;obtain⟨y0,y1,y2,y3,y4,yz⟩:=cells5 hxf;clear HN HPA HC1;cases B
  ·
   go_wp2_with fail;refine bodyPost_ret (Zcu rfl _ _ _) rfl ⟨?_,hbf⟩;rw[HRV.out];rfl
  ·
   go_upto_region 6 with fail
   go_quiet ((first|(with_reducible exact Zb9 (HG.out _))|(with_reducible exact Zb9 (HFL.out _))|(with_reducible exact Zb9 (HFH.out _))))
   go_wp2_with fail;refine bodyPost_ret (Zcu rfl _ _ _) rfl ⟨?_,Zaj hbf _⟩;rw[HRV.out];rfl
open Go.RowKit
def bnOf (r:RN):BN:=⟨r.v,r.lo,r.hi⟩
def Zab (d:Zag):Nat->Option BN:=fun i=>(d.pool.get i).map bnOf
def Za0 (d:Zag):Nat->Nat:=fun i=>d.counts.getD i 0
def Zag.cd (d:Zag) (cs:List Nat) (dd:Nat):Zag:={ d with counts:=cs,dead:=dd }
theorem Za7 {d:Zag} {i:Nat} {b:BN} (h:Zab d i=some b):d.pool.tk i=true/\d.pool.has i=d.pool.nd i/\bnOf (d.pool.has i)=b:=by
 unfold Zab Zam.get at h
 by_cases e:d.pool.tk i=true
 ·
  rw[if_pos e] at h;refine⟨e,by unfold Zam.has;rw[if_pos e],?_⟩;unfold Zam.has;rw[if_pos e];simpa using h
 ·
  rw[if_neg e] at h;cases h
theorem Zge {d:Zag} {i:Nat} (h:Zab d i=none):d.pool.tk i=false:=by
 unfold Zab Zam.get at h
 by_cases e:d.pool.tk i=true
 ·
  rw[if_pos e] at h;cases h
 ·
  simpa using e
structure Acy (N:Nat->Option BN) (rk:Nat->Nat):Prop where
 none0:N 0=none
 okLo:∀ i b,N i=some b->okE N b.lo
 okHi:∀ i b,N i=some b->okE N b.hi
 ltLo:∀ i b c,N i=some b->N (b.lo/2)=some c->rk (b.lo/2)<rk i
 ltHi:∀ i b c,N i=some b->N (b.hi/2)=some c->rk (b.hi/2)<rk i
structure Zcc (d:Zag) (ext:Nat->Int):Prop where
 cnt:Cnt d.pool.at_.length (Zab d) (Za0 d) ext
 dead:(d.dead:Int)=Zeb d.pool.at_.length (Zab d) (Za0 d)
 has:∀ i b,Zab d i=some b->i<d.counts.length
theorem Zie {f:Nat->Int} {B:Int}:∀ (k:Nat),(∀ i,i<k->f i<=B)->Zay k f<=k*B
 | 0,_=>by simp[Zay]
 | k+1,h=>by
   have ih:=Zie k (fun i hi=>h i (by omega));have h1:=h k (by omega);have:Zay (k+1) f=Zay k f+f k:=rfl;rw[this];have e:((k+1:Nat):Int)*B=k*B+B:=by rw[Int.natCast_add,Int.add_mul];simp
   omega
theorem Zwl (N:Nat->Option BN) (c:Nat->Nat) (x p:Nat):from1 N c x p<=2:=by
 unfold from1 Zdw toE;split
 ·
  split
  ·
   split<;>split<;>omega
  ·
   omega
 ·
  omega
theorem Cnt.le {k:Nat} {N:Nat->Option BN} {c:Nat->Nat} {ext:Nat->Int} (h:Cnt k N c ext) {x:Nat} {b:BN} (hx:N x=some b):(c x:Int)<=ext x+2*k:=by
 have h1:=h.eq x b hx;have h2:=Zie (f:=from1 N c x) (B:=2) k (fun i _=>Zwl N c x i);omega
theorem Zd0 {d:Zag} {x v dd:Nat} (hx:x<d.counts.length):Za0 (d.cd (d.counts.set x v) dd)=setC (Za0 d) x v:=by
 funext i;unfold Za0 setC Zag.cd;dsimp only
 by_cases e:i=x
 ·
  subst e;simp[List.getD,hx]
 ·
  simp only[List.getD,List.getElem?_set,if_neg (Ne.symm e),if_neg e]
section
variable {d:Zag} {ext:Nat->Int} {x:Nat} {b:BN}
theorem Zcc.congr (h:Zcc d ext) {ext':Nat->Int} (he:∀ x b,Zab d x=some b->ext' x=ext x):Zcc d ext':=⟨h.cnt.congr he,h.dead,h.has⟩
theorem Zcc.moreLive (h:Zcc d ext) (hx:Zab d x=some b) (hc:0<Za0 d x):Zcc (d.cd (d.counts.set x (Za0 d x+1)) d.dead) (bump ext x 1):=by
 have hl:=h.has x b hx;refine⟨?_,?_,fun i b' hb=>by simpa [Zag.cd] using h.has i b' hb⟩
 ·
  rw[Zd0 hl];exact h.cnt.moreLive hc
 ·
  rw[Zd0 hl]
  show (d.dead:Int)=Zeb d.pool.at_.length (Zab d) _
  rw[Zgo hx (h.cnt.lt x b hx),<- h.dead,if_neg (by omega),if_neg (by omega)];omega
theorem Zcc.moreDead (h:Zcc d ext) (hx:Zab d x=some b) (hc:Za0 d x=0):0<d.dead/\Zcc (d.cd (d.counts.set x 1) (d.dead-1)) (addE (addE (bump ext x 1) b.lo (-1)) b.hi (-1)):=by
 have hl:=h.has x b hx;have hk:=h.cnt.lt x b hx;have h1:=Zgo (c:=Za0 d) (v:=1) hx hk;rw[if_neg (by omega),if_pos hc,<- h.dead] at h1;have h2:0<=Zeb d.pool.at_.length (Zab d) (setC (Za0 d) x 1):=Zey _ fun i _=>Zi5 _ _ i
 refine⟨by omega,?_,?_,fun i b' hb=>by simpa [Zag.cd] using h.has i b' hb⟩
 ·
  rw[Zd0 hl];exact h.cnt.moreDead hx hc
 ·
  rw[Zd0 hl]
  show ((d.dead-1:Nat):Int)=Zeb d.pool.at_.length (Zab d) _
  rw[h1];omega
theorem Zcc.lessLive (h:Zcc d ext) (hx:Zab d x=some b) (hc:1<Za0 d x):Zcc (d.cd (d.counts.set x (Za0 d x-1)) d.dead) (bump ext x (-1)):=by
 have hl:=h.has x b hx;refine⟨?_,?_,fun i b' hb=>by simpa [Zag.cd] using h.has i b' hb⟩
 ·
  rw[Zd0 hl];exact h.cnt.lessLive hc
 ·
  rw[Zd0 hl]
  show (d.dead:Int)=Zeb d.pool.at_.length (Zab d) _
  rw[Zgo hx (h.cnt.lt x b hx),<- h.dead,if_neg (by omega),if_neg (by omega)];omega
theorem Zcc.lessDies (h:Zcc d ext) (hx:Zab d x=some b) (hc:Za0 d x=1):Zcc (d.cd (d.counts.set x 0) (d.dead+1)) (addE (addE (bump ext x (-1)) b.lo 1) b.hi 1):=by
 have hl:=h.has x b hx;have hk:=h.cnt.lt x b hx;have h1:=Zgo (c:=Za0 d) (v:=0) hx hk;rw[if_pos rfl,if_neg (by omega),<- h.dead] at h1;refine⟨?_,?_,fun i b' hb=>by simpa [Zag.cd] using h.has i b' hb⟩
 ·
  rw[Zd0 hl];exact h.cnt.lessDies hx hc
 ·
  rw[Zd0 hl]
  show ((d.dead+1:Nat):Int)=Zeb d.pool.at_.length (Zab d) _
  rw[h1];omega
end
def RCnt (r:Role):Prop:=r=.store\/r=.counts
section
variable {o:Own} {w:World} {sb:Nat} {d:Zag} {s:Za5}
theorem Zao.countsAt (h:Zao o w sb d s) {x:Nat} (hx:x<d.counts.length):∃ gc cap,s.vc=.slice (some ⟨gc,0,none⟩) d.counts.length cap/\o gc=some .counts/\gc≠sb/\d.counts.length<=cap/\cap<=maxLen/\(∀ k,w.frozen? ⟨gc,k,none⟩=false) /\
 (∀ k,k<d.counts.length->w.cell? ⟨gc,k,none⟩=some (.int .i64 (Za0 d k:Nat))):=by
 obtain⟨gc,cap,hv,ho,h1,h2⟩:=h.counts.shape (by omega);have hr:=h.counts;rw[hv] at hr;refine⟨gc,cap,hv,ho,fun e=>(by subst e;rw[h.own] at ho;cases ho),h1,h2,hr.frozen,fun k hk=>?_⟩;rw[hr.cell k (by simpa using hk),List.getElem?_map,List.getElem?_eq_getElem hk];simp[nat64,Za0,List.getD,hk]
theorem Zao.keepBut (h:Zao o w sb d s) {d':Zag} {w':World} {g:Nat} (hg:o g=some .counts\/o g=some .store) (hk:∀ k,k≠g->w'.heap[k]?=w.heap[k]?)
 (hb:∃ dd cs,w'.heap[sb]?=some (.cells #[.pointer (some ⟨s.lb,0,none⟩),.pointer (some ⟨s.pb,0,none⟩),s.vt,s.vc,.int .i64 (dd:Nat)] 188 (0,0))/\RowR o w' .counts 3 1 s.vc cs.length (cs.map nat64)/\d'=d.cd cs dd):Zao o w' sb d' s:=by
 obtain⟨dd,cs,h1,h2,rfl⟩:=hb;have hne:∀ {b r},o b=some r->r ≠ .counts->r ≠ .store->b≠g:=fun hb hr hr' e=>by subst e;rcases hg with hg|hg<;>rw[hb] at hg<;>cases hg<;>contradiction
 exact⟨h.own,h.ownl,h1,(hk _ (hne h.ownl (by simp) (by simp))).trans h.lev,h.vars.keep (fun b hb=>hk _ (hne hb (by simp) (by simp))) (fun _ h=>h),h.level.keep (fun b hb=>hk _ (hne hb (by simp) (by simp))) (fun _ h=>h),
  h.pool.keep (fun b r hb hr=>hk _ (hne hb (by rcases hr with rfl|rfl|rfl|rfl<;>simp) (by rcases hr with rfl|rfl|rfl|rfl<;>simp))) (fun _ _ h=>h),
  h.tabs.keep (fun b hb=>hk _ (hne hb (by simp) (by simp))) (fun _ h=>h),
  fun v hv=>(h.tab v hv).keep (fun b r hb hr=>hk _ (hne hb (by rcases hr with rfl|rfl<;>simp) (by rcases hr with rfl|rfl<;>simp))) (fun _ _ h=>h),h2,h.len,h.tlen⟩
theorem Zao.setCount (h:Zao o w sb d s) {gc cap:Nat} (hv:s.vc=.slice (some ⟨gc,0,none⟩) d.counts.length cap) (hne:gc≠sb) (x v:Nat):Zao o (w.setCell ⟨gc,x,none⟩ (.int .i64 v)) sb (d.cd (d.counts.set x v) d.dead) s:=by
 have hr:=h.counts;rw[hv] at hr;refine h.keepBut (g:=gc) (.inl hr.owner) (fun k hk=>Zaf hk _) ⟨d.dead,_,(Zaf (Ne.symm hne) _).trans h.blk,?_,rfl⟩;have:=hr.stored x (.int .i64 v);rw[hv,List.length_set,List.map_set];exact this
theorem Zao.setDead (h:Zao o w sb d s) (hlt:Zak o w) (dd:Nat):Zao o (w.setCell ⟨sb,4,none⟩ (.int .i64 dd)) sb (d.cd d.counts dd) s:=by
 refine h.keepBut (g:=sb) (.inr h.own) (fun k hk=>Zaf hk _) ⟨dd,d.counts,?_,?_,rfl⟩
 ·
  exact Zae (k:=4) h.blk _
 ·
  exact h.counts.keep (fun b hb=>Zaf (fun e=>by have e':b=sb:=e;subst e';rw[h.own] at hb;cases hb) _) (fun _ h=>h)
end
open Go.RowKit
theorem Zfc {fn:Func} (h:fn.results=#[]) (tmps:Array Value) (P:Program) (w:World):(results fn tmps).run P w=.ok (.tuple #[]) w:=by simp[results,h]
def Zbm (o:Own) (w:World) (sb:Nat) (d:Zag) (s:Za5) (rk:Nat->Nat) (m:Nat) (less:Bool) (ext':Nat->Int) (e:Ending) (w':World):Prop :=
 ∃ cs dd,e=.returned (.tuple #[])/\Zao o w' sb (d.cd cs dd) s/\Zcc (d.cd cs dd) ext'/\cs.length=d.counts.length/\(∀ i,m<=rk i->cs.getD i 0=d.counts.getD i 0)/\(less=true->∀ i,cs.getD i 0<=d.counts.getD i 0)/\Chg RCnt o o w w'
structure Zne (o:Own) (w:World) (sb:Nat) (d:Zag) (s:Za5) (rk:Nat->Nat) (ext:Nat->Int) (f:Nat) (m:Nat):Prop where
 st:Zao o w sb d s
 lt:Zak o w
 acy:Acy (Zab d) rk
 ok:okE (Zab d) f
 live:Zcc d ext
 top:∀ y b,Zab d y=some b->ext y+toE f y<=1099511627776
 low:f/2=0\/rk (f/2)<m
structure Znc (o:Own) (w:World) (sb:Nat) (d:Zag) (s:Za5) (rk:Nat->Nat) (ext:Nat->Int) (f:Nat) (m:Nat):Prop where
 st:Zao o w sb d s
 lt:Zak o w
 acy:Acy (Zab d) rk
 ok:okE (Zab d) f
 live:Zcc d ext
 top:∀ y b,Zab d y=some b->Za0 d y<=2199023255552
 pos:∀ y b,Zab d y=some b->0<=ext y-toE f y
 low:f/2=0\/rk (f/2)<m
theorem Zao.tk_lt {o:Own} {w:World} {sb:Nat} {d:Zag} {s:Za5} (h:Zao o w sb d s) {i:Nat} {b:BN} (hi:Zab d i=some b):0<i/\i<d.pool.at_.length/\d.pool.at_.length<=1048577:=by
 have h1:=h.pool.tk_lt (Za7 hi).1;have h2:=h.pool.top;have h3:=h.pool.room;omega
theorem Zao.edge_lt {o:Own} {w:World} {sb:Nat} {d:Zag} {s:Za5} (h:Zao o w sb d s) {f:Nat} (hf:okE (Zab d) f):f<2097156:=by
 rcases hf with h0|⟨b,hb⟩
 ·
  omega
 ·
  have:=h.tk_lt hb;omega
theorem Znf {ext:Nat->Int} {f:Nat}:addE ext f 1=bump ext (f/2) 1:=by
 funext y;unfold addE bump toE
 by_cases e:f/2=y
 ·
  subst e;simp
 ·
  simp[e,Ne.symm e]
theorem Zle {ext:Nat->Int} {f:Nat}:addE ext f (-1)=bump ext (f/2) (-1):=by
 funext y;unfold addE bump toE
 by_cases e:f/2=y
 ·
  subst e;simp
 ·
  simp[e,Ne.symm e]
theorem Zu2 {o:Own} {w:World} {sb:Nat} {d:Zag} {s:Za5} {rk:Nat->Nat} {ext:Nat->Int} {f m:Nat} (h:Zne o w sb d s rk ext f m) {b:BN} (hx:Zab d (enode f)=some b) (hc:0<Za0 d (enode f)) :
 Calls Tryz.prog 220 #[.pointer (some ⟨sb,0,none⟩),.int .i64 f] w (Zbm o w sb d s rk m false (addE ext f 1)):=by
 have hfl:=h.st.edge_lt h.ok;have hf:f<eMax:=by unfold eMax;omega
 have hxl:=h.live.has _ _ hx;obtain⟨gc,cap,hv,hgo,hne,hlc,hcm,hfz,hcell⟩:=h.st.countsAt hxl;obtain⟨c0,c1,c2,c3,c4,f0⟩:=cells5 h.st.blk;rw[hv] at c3;have hcx:=hcell _ hxl;have hfx:=hfz (enode f);have hcb:=h.live.cnt.le hx;have htop:=h.top _ _ hx;rw[show toE f (enode f)=1 from Ziy f] at htop;have htk':=h.st.tk_lt hx;have htk:=h.st.tk_lt hx;have HLOW:Hid (∀ i,m<=rk i->(d.counts.set (enode f) (Za0 d (enode f)+1)).getD i 0=d.counts.getD i 0):=fun i hi=>by
  have:enode f≠i:=by
   rintro rfl;rcases h.low with h0|h0
   ·
    have:enode f=0:=h0;omega
   ·
    have e:f/2=enode f:=rfl;rw[e] at h0;omega
  simp only[List.getD,List.getElem?_set,if_neg this]
 have HLE:Hid (false=true->∀ i,(d.counts.set (enode f) (Za0 d (enode f)+1)).getD i 0<=d.counts.getD i 0):=fun e=>(by cases e)
 have HPOST:Hid (Zao o (w.setCell ⟨gc,enode f,none⟩ (.int .i64 ((Za0 d (enode f)+1:Nat):Int))) sb (d.cd (d.counts.set (enode f) (Za0 d (enode f)+1)) d.dead) s/\Zcc (d.cd (d.counts.set (enode f) (Za0 d (enode f)+1)) d.dead) (addE ext f 1)) :=
  ⟨h.st.setCount hv hne _ _,by rw[Znf];exact h.live.moreLive hx hc⟩
 have HCHG:=Hd ((Chg.refl RCnt o w).setCell (p:=⟨gc,enode f,none⟩) hgo (.inr rfl) (.int .i64 ((Za0 d (enode f)+1:Nat):Int)));rw[show ((Za0 d (enode f)+1:Nat):Int)=(Za0 d (enode f):Nat)+1 from by omega] at HPOST HCHG;have hid0:((enode f:Nat):Int)≠0:=by have:=htk.1;omega
 have HN:=Hd (fun W=>Zcn f W hf);have hne':sb≠gc:=fun e=>hne e.symm
 have hxl':((enode f:Nat):Int)<d.counts.length:=by omega
 obtain⟨k,hk⟩:∃ k,k=enode f:=⟨_,rfl⟩;obtain⟨c,hcc⟩:∃ c,c=Za0 d (enode f):=⟨_,rfl⟩;have hcb1:c<=2199023255552:=by omega
 have hc1:0<c:=by omega
 rw[<- hcc] at hcx HPOST HCHG HLOW HLE;rw[<- hk] at hcx hfx HPOST HCHG hid0 HN hxl' HLOW HLE;have hk0:((k:Int) == 0)=false:=by simpa using hid0
 have hk1:0<k:=by omega
 have hcm':d.counts.length<=9223372036854775807:=by unfold maxLen at hcm;omega
 have hc3:(1:Int)<(c:Int)+1:=by omega
 clear h hx hc hv hgo hlc hcm hfz hcell hk hcc htop htk hid0 hxl hfl hf
 go_enter Tryz.func220,Tryz.ntmps220
 go_wp2_with fail;refine(HN.out _).mono ?_;rintro x w' ⟨rfl,rfl⟩;go_wp2_with fail;refine bodyPost_ret (Zfc rfl _ _ _) rfl ⟨_,_,rfl,HPOST.out.1,HPOST.out.2,by simp,HLOW.out,(fun e=>by first|exact absurd e (by decide)|exact HLE.out (by simp)),HCHG.out⟩
theorem Zu3 {o:Own} {w:World} {sb:Nat} {d:Zag} {s:Za5} {rk:Nat->Nat} {ext:Nat->Int} {f m:Nat} (h:Zne o w sb d s rk ext f m) (hx:enode f=0) :
 Calls Tryz.prog 220 #[.pointer (some ⟨sb,0,none⟩),.int .i64 f] w (Zbm o w sb d s rk m false (addE ext f 1)):=by
 have hf:f<eMax:=by have:=h.st.edge_lt h.ok;unfold eMax;omega
 have HPOST:Hid (Zbm o w sb d s rk m false (addE ext f 1) (.returned (.tuple #[])) w) :=
  ⟨d.counts,d.dead,rfl,h.st,h.live.congr (fun y b hb=>by
   have:y≠0:=by rintro rfl;rw[h.acy.none0] at hb;cases hb
   have e:f/2=0:=hx;simp[addE,toE,e,Ne.symm this]),rfl,fun _ _=>rfl,fun _ _=>Nat.le_refl _,Chg.refl _ _ _⟩
 have HN:=Hd (fun W=>Zcn f W hf);rw[hx] at HN;clear h hx hf
 go_enter Tryz.func220,Tryz.ntmps220
 go_wp2_with fail;refine(HN.out _).mono ?_;rintro x w' ⟨rfl,rfl⟩;go_wp2_with fail;refine bodyPost_ret (Zfc rfl _ _ _) rfl HPOST.out
theorem Zu1 {o:Own} {w:World} {sb:Nat} {d:Zag} {s:Za5} {rk:Nat->Nat} {ext:Nat->Int} {f m:Nat} (h:Zne o w sb d s rk ext f (m+1)) {b:BN} (hx:Zab d (enode f)=some b) (hc:Za0 d (enode f)=0)
 (ih:∀ w d ext f,Zne o w sb d s rk ext f m->Calls Tryz.prog 220 #[.pointer (some ⟨sb,0,none⟩),.int .i64 f] w (Zbm o w sb d s rk m false (addE ext f 1))) :
 Calls Tryz.prog 220 #[.pointer (some ⟨sb,0,none⟩),.int .i64 f] w (Zbm o w sb d s rk (m+1) false (addE ext f 1)):=by
 have hfl:=h.st.edge_lt h.ok;have hf:f<eMax:=by unfold eMax;omega
 have hxl:=h.live.has _ _ hx;obtain⟨gc,cap,hv,hgo,hne,hlc,hcm,hfz,hcell⟩:=h.st.countsAt hxl;obtain⟨c0,c1,c2,c3,c4,f0⟩:=cells5 h.st.blk;rw[hv] at c3;have hcx:=hcell _ hxl;have hfx:=hfz (enode f);have htk:=h.st.tk_lt hx;obtain⟨hdp,hlv⟩:=h.live.moreDead hx hc;have hdb:d.dead<=1048577:=by
  have h1:=h.live.dead;have h2:=Zie (f:=dead1 (Zab d) (Za0 d)) (B:=1) d.pool.at_.length (fun i _=>by unfold dead1;split<;>first|omega|(split<;>omega));have h3:Zeb d.pool.at_.length (Zab d) (Za0 d)=Zay d.pool.at_.length (dead1 (Zab d) (Za0 d)):=rfl;omega
 have HLT:=Hd h.lt;have HLOW:∀ i,m+1<=rk i->(d.counts.set (enode f) 1).getD i 0=d.counts.getD i 0:=fun i hi=>by
  have:enode f≠i:=by
   rintro rfl;rcases h.low with h0|h0
   ·
    have:enode f=0:=h0;omega
   ·
    have e:f/2=enode f:=rfl;rw[e] at h0;omega
  simp only[List.getD,List.getElem?_set,if_neg this]
 have HLE:false=true->∀ i,(d.counts.set (enode f) 1).getD i 0<=d.counts.getD i 0:=fun e=>(by cases e)
 have hrk:rk (enode f)<=m:=by
  rcases h.low with h0|h0
  ·
   have:enode f=0:=h0;omega
  ·
   have e:f/2=enode f:=rfl;rw[e] at h0;omega
 have hlow:∀ e,(okE (Zab d) e)->(∀ c,Zab d (e/2)=some c->rk (e/2)<rk (enode f))->e/2=0\/rk (e/2)<m:=fun e ho hr=>by
  rcases ho with h0|⟨c,hc⟩
  ·
   exact .inl h0
  ·
   exact .inr (by have:=hr c hc;omega)
 have st1:Zao o (w.setCell ⟨gc,enode f,none⟩ (.int .i64 ((1:Nat):Int))) sb (d.cd (d.counts.set (enode f) 1) d.dead) s:=h.st.setCount hv hne _ _;have hlt1:Zak o (w.setCell ⟨gc,enode f,none⟩ (.int .i64 ((1:Nat):Int))):=h.lt.mono (by simp[World.setCell]);have st2:Zao o ((w.setCell ⟨gc,enode f,none⟩ (.int .i64 ((1:Nat):Int))).setCell ⟨sb,4,none⟩ (.int .i64 ((d.dead-1:Nat):Int))) sb (d.cd (d.counts.set (enode f) 1) (d.dead-1)) s:=st1.setDead hlt1 _;have HCHG:=Hd (((Chg.refl RCnt o w).setCell (p:=⟨gc,enode f,none⟩) hgo (.inr rfl) (.int .i64 ((1:Nat):Int))).setCell (p:=⟨sb,4,none⟩) h.st.own (.inl rfl) (.int .i64 ((d.dead-1:Nat):Int)));have hlt2:Zak o ((w.setCell ⟨gc,enode f,none⟩ (.int .i64 ((1:Nat):Int))).setCell ⟨sb,4,none⟩ (.int .i64 ((d.dead-1:Nat):Int))):=hlt1.mono (by simp[World.setCell]);have hpa:=Za7 hx;have hbN:∃ N,N=d.pool.has (enode f)/\N.lo=b.lo/\N.hi=b.hi:=⟨_,rfl,by rw[<- hpa.2.2];rfl,by rw[<- hpa.2.2];rfl⟩;have hex:addE (addE (addE (addE (bump ext (enode f) 1) b.lo (-1)) b.hi (-1)) b.lo 1) b.hi 1=addE ext f 1:=by
  funext y;have h1:=congrFun (Znf (ext:=ext) (f:=f)) y;have h2:enode f=f/2:=rfl;rw[h2,h1];simp only[addE];omega
 obtain⟨W2,hW2⟩:∃ W,W=(w.setCell ⟨gc,enode f,none⟩ (.int .i64 ((1:Nat):Int))).setCell ⟨sb,4,none⟩ (.int .i64 ((d.dead-1:Nat):Int)):=⟨_,rfl⟩;rw[<- hW2] at st2 HCHG hlt2;have HLT2:=Hd hlt2;have HPA:Hid (∀ W:World,Below W2.heap.size W2 W->Calls Tryz.prog 171 #[.pointer (some ⟨s.pb,0,none⟩),.int .i64 (enode f:Nat)] W fun x w'=>x=.returned (.tuple #[Za3 (d.pool.has (enode f)),.bool (d.pool.tk (enode f))])/\Below W.heap.size W w') :=
  Hd (fun W hb=>Zc4 o s.pb d.pool (enode f) W (st2.pool.below hb hlt2) (hlt2.mono hb.size))
 have HC1:Hid (∀ W:World,Below W2.heap.size W2 W->W.cell? ⟨sb,1,none⟩=some (.pointer (some ⟨s.pb,0,none⟩))):=Hd (fun W hb=>(cells5 (st2.below hlt2 hb).blk).2.1);have HLO:Hid (∀ W:World,Below W2.heap.size W2 W->Calls Tryz.prog 220 #[.pointer (some ⟨sb,0,none⟩),.int .i64 (b.lo:Nat)] W (Zbm o W sb (d.cd (d.counts.set (enode f) 1) (d.dead-1)) s rk m false (addE (addE (addE (bump ext (enode f) 1) b.lo (-1)) b.hi (-1)) b.lo 1))) :=
  Hd (fun W hb=>ih W _ _ b.lo ⟨st2.below hlt2 hb,hlt2.mono hb.size,h.acy,h.acy.okLo _ _ hx,hlv,fun y q hq=>by
   have h1:=h.top y q hq;have h2:toE f y=if enode f=y then 1 else 0:=rfl
   have h3:=Zb6 b.lo y;have h4:=Zb6 b.hi y;simp only[addE,bump]
   by_cases e:y=enode f
   ·
    rw[if_pos e.symm] at h2;rw[if_pos e];omega
   ·
    rw[if_neg (Ne.symm e)] at h2;rw[if_neg e];omega,hlow b.lo (h.acy.okLo _ _ hx) (fun c hc=>h.acy.ltLo _ _ c hx hc)⟩)
 have HHI:Hid (∀ (W:World) (cs:List Nat) (dd:Nat),Zao o W sb ((d.cd (d.counts.set (enode f) 1) (d.dead-1)).cd cs dd) s->Zcc ((d.cd (d.counts.set (enode f) 1) (d.dead-1)).cd cs dd) (addE (addE (addE (bump ext (enode f) 1) b.lo (-1)) b.hi (-1)) b.lo 1)->(false=true->∀ i,cs.getD i 0<=(d.counts.set (enode f) 1).getD i 0)->Chg RCnt o o w W ->
  Calls Tryz.prog 220 #[.pointer (some ⟨sb,0,none⟩),.int .i64 (b.hi:Nat)] W (Zbm o W sb ((d.cd (d.counts.set (enode f) 1) (d.dead-1)).cd cs dd) s rk m false (addE ext f 1))) :=
  Hd (fun W cs dd hs hl hle hch=>by
   rw[<- hex]
   exact ih W _ _ b.hi ⟨hs,HLT.out.mono hch.size,h.acy,h.acy.okHi _ _ hx,hl,fun y q hq=>by
    have h1:=h.top y q hq;have h2:toE f y=if enode f=y then 1 else 0:=rfl
    have h3:=Zb6 b.lo y;have h4:=Zb6 b.hi y;simp only[addE,bump]
    by_cases e:y=enode f
    ·
     rw[if_pos e.symm] at h2;rw[if_pos e];omega
    ·
     rw[if_neg (Ne.symm e)] at h2;rw[if_neg e];omega,hlow b.hi (h.acy.okHi _ _ hx) (fun c hc=>h.acy.ltHi _ _ c hx hc)⟩)
 have HEND:Hid (∀ (W:World) (cs:List Nat) (dd:Nat),Zao o W sb (d.cd cs dd) s->Zcc (d.cd cs dd) (addE ext f 1)->cs.length=(d.counts.set (enode f) 1).length->(∀ i,m+1<=rk i->cs.getD i 0=(d.counts.set (enode f) 1).getD i 0)->(false=true->∀ i,cs.getD i 0<=(d.counts.set (enode f) 1).getD i 0)->Chg RCnt o o w W ->
  Zbm o w sb d s rk (m+1) false (addE ext f 1) (.returned (.tuple #[])) W) :=
  fun W cs dd hs hl hlen hlw hle hch=>⟨cs,dd,rfl,hs,hl,by rw[hlen];simp,fun i hi=>(hlw i hi).trans (HLOW i hi),fun e i=>Nat.le_trans (hle e i) (HLE e i),hch⟩
 have HWE:Hid (W2=(w.setCell ⟨gc,enode f,none⟩ (.int .i64 1)).setCell ⟨sb,4,none⟩ (.int .i64 ((d.dead:Int)-1))):=by
  show _=_
  rw[hW2,show ((d.dead-1:Nat):Int)=(d.dead:Int)-1 from by omega];rfl
 have hid0:((enode f:Nat):Int)≠0:=by have:=htk.1;omega
 have HN:=Hd (fun W=>Zcn f W hf);have hne':sb≠gc:=fun e=>hne e.symm
 have hxl':((enode f:Nat):Int)<d.counts.length:=by omega
 obtain⟨N,hN,hNlo,hNhi⟩:=hbN;rw[<- hN] at HPA;rw[<- hNlo,<- hNhi] at HLO HHI;obtain⟨B,hB⟩:∃ B,B=d.pool.tk (enode f):=⟨_,rfl⟩;rw[<- hB] at HPA;rw[hc] at hcx;obtain⟨k,hk⟩:∃ k,k=enode f:=⟨_,rfl⟩;rw[<- hk] at hcx hfx HPA hid0 HN hxl' HWE;have hk0:((k:Int) == 0)=false:=by simpa using hid0
 have hk1:0<k:=by omega
 have hcm':d.counts.length<=9223372036854775807:=by unfold maxLen at hcm;omega
 obtain⟨dn,hdn⟩:∃ n,n=d.dead:=⟨_,rfl⟩;rw[<- hdn] at c4 hdb HWE hdp;clear ih h hx hc hv hgo hlc hcm hfz hcell htk hid0 hxl hfl hf hlv st1 st2 hlt1 hlt2 HLOW HLE hrk hlow hW2 hex hN hNlo hNhi hB hdn hpa hk
 go_enter Tryz.func220,Tryz.ntmps220
 go_wp2_with fail;refine(HN.out _).mono ?_;rintro x w' ⟨rfl,rfl⟩;go_wp2_with fail;rw[<- HWE.out];refine(HPA.out W2 (Below.refl _ _)).mono ?_;rintro x v2 ⟨rfl,hb2⟩;unfold Za3;clear HWE c0 c1 c2 c3 c4 f0 hcx hfx HN hne hne' hxl' hk0 hk1 hcm' hdb hdp;go_wp2_with fail;obtain⟨W3,hW3⟩:∃ W,W=v2.alloc (.cells #[.int .i64 N.id,.int .i64 N.v,.int .i64 N.lo,.int .i64 N.hi,.int .i64 N.refs] 199):=⟨_,rfl⟩;obtain⟨bx,hbx⟩:∃ bx,bx=v2.heap.size:=⟨_,rfl⟩;have hge:W2.heap.size<=bx:=by rw[hbx];exact hb2.size
 have hbf:Below W2.heap.size W2 W3:=by rw[hW3];exact hb2.alloc hb2.size _
 have hxf:W3.heap[bx]?=some (.cells #[.int .i64 N.id,.int .i64 N.v,.int .i64 N.lo,.int .i64 N.hi,.int .i64 N.refs] 199 (0,0)):=by rw[hW3,hbx];exact heap_alloc_new v2 _
 rw[<- hW3];rw[<- hbx];clear hW3 hbx hb2 HPA HC1;refine(HLO.out _ hbf).mono ?_;rintro x w1 ⟨cs1,dd1,rfl,st1,lv1,len1,low1,le1,chg1⟩;have hxg:=(chg1.alien (Array.getElem?_eq_some_iff.1 hxf).1 (HLT2.out.none hge)).trans hxf;obtain⟨z0,z1,z2,z3,z4,zz⟩:=cells5 hxg;have HS1:=Hd st1;have HL1:=Hd lv1;have HE1:=Hd len1;have HW1:=Hd low1;have HI1:=Hd le1;have HC3:=Hd ((HCHG.out.trans (Chg.of_below hbf RCnt o)).trans chg1);clear st1 lv1 len1 low1 le1 chg1 hxf hxg hbf;go_wp2_with fail;refine(HHI.out w1 cs1 dd1 HS1.out HL1.out (fun e=>by first|exact absurd e (by decide)|exact HI1.out (by simp)) HC3.out).mono ?_;rintro x w2 ⟨cs2,dd2,rfl,st2,lv2,len2,low2,le2,chg2⟩;have HFIN:=Hd (HEND.out w2 cs2 dd2 st2 lv2 (len2.trans HE1.out) (fun i hi=>(low2 i (by omega)).trans (HW1.out i (by omega))) (fun e i=>by first|exact absurd e (by decide)|exact Nat.le_trans (le2 (by simp) i) (HI1.out (by simp) i)) (HC3.out.trans chg2));clear st2 lv2 len2 low2 le2 chg2;go_wp2_with fail;refine bodyPost_end (Zfc rfl _ _ _) rfl HFIN.out
theorem Zfu (o:Own) (sb:Nat) (s:Za5) (rk:Nat->Nat):∀ (m:Nat) (w:World) (d:Zag) (ext:Nat->Int) (f:Nat),Zne o w sb d s rk ext f m ->
 Calls Tryz.prog 220 #[.pointer (some ⟨sb,0,none⟩),.int .i64 f] w (Zbm o w sb d s rk m false (addE ext f 1))
 | m,w,d,ext,f,h=>by
   by_cases h0:enode f=0
   ·
    exact Zu3 h h0
   ·
    obtain⟨b,hx⟩:∃ b,Zab d (enode f)=some b:=h.ok.resolve_left h0
    by_cases hc:0<Za0 d (enode f)
    ·
     exact Zu2 h hx hc
    ·
     cases m with
     | zero=>exact absurd (h.low.resolve_left h0) (by omega)
     | succ m=>exact Zu1 h hx (by omega) (Zfu o sb s rk m)
open Go.RowKit
theorem Zuq {o:Own} {w:World} {sb:Nat} {d:Zag} {s:Za5} {rk:Nat->Nat} {ext:Nat->Int} {f m:Nat} (h:Znc o w sb d s rk ext f m) {b:BN} (hx:Zab d (enode f)=some b) (hc:1<Za0 d (enode f)) :
 Calls Tryz.prog 174 #[.pointer (some ⟨sb,0,none⟩),.int .i64 f] w (Zbm o w sb d s rk m true (addE ext f (-1))):=by
 have hfl:=h.st.edge_lt h.ok;have hf:f<eMax:=by unfold eMax;omega
 have hxl:=h.live.has _ _ hx;obtain⟨gc,cap,hv,hgo,hne,hlc,hcm,hfz,hcell⟩:=h.st.countsAt hxl;obtain⟨c0,c1,c2,c3,c4,f0⟩:=cells5 h.st.blk;rw[hv] at c3;have hcx:=hcell _ hxl;have hfx:=hfz (enode f);have htop:=h.top (enode f) _ hx;have htk:=h.st.tk_lt hx;have HLOW:Hid (∀ i,m<=rk i->(d.counts.set (enode f) (Za0 d (enode f)-1)).getD i 0=d.counts.getD i 0):=fun i hi=>by
  have:enode f≠i:=by
   rintro rfl;rcases h.low with h0|h0
   ·
    have:enode f=0:=h0;omega
   ·
    have e:f/2=enode f:=rfl;rw[e] at h0;omega
  simp only[List.getD,List.getElem?_set,if_neg this]
 have HLE:Hid (true=true->∀ i,(d.counts.set (enode f) (Za0 d (enode f)-1)).getD i 0<=d.counts.getD i 0):=fun _ i=>by
  by_cases e:enode f=i
  ·
   subst e;simp only[List.getD,List.getElem?_set];simp[hxl,Za0,List.getD]
  ·
   simp only[List.getD,List.getElem?_set,if_neg e];omega
 have HPOST:Hid (Zao o (w.setCell ⟨gc,enode f,none⟩ (.int .i64 ((Za0 d (enode f)-1:Nat):Int))) sb (d.cd (d.counts.set (enode f) (Za0 d (enode f)-1)) d.dead) s/\Zcc (d.cd (d.counts.set (enode f) (Za0 d (enode f)-1)) d.dead) (addE ext f (-1))) :=
  ⟨h.st.setCount hv hne _ _,by rw[Zle];exact h.live.lessLive hx hc⟩
 have HCHG:=Hd ((Chg.refl RCnt o w).setCell (p:=⟨gc,enode f,none⟩) hgo (.inr rfl) (.int .i64 ((Za0 d (enode f)-1:Nat):Int)));rw[show ((Za0 d (enode f)-1:Nat):Int)=(Za0 d (enode f):Nat)-1 from by omega] at HPOST HCHG;have hid0:((enode f:Nat):Int)≠0:=by have:=htk.1;omega
 have HN:=Hd (fun W=>Zcn f W hf);have hne':sb≠gc:=fun e=>hne e.symm
 have hxl':((enode f:Nat):Int)<d.counts.length:=by omega
 obtain⟨k,hk⟩:∃ k,k=enode f:=⟨_,rfl⟩;obtain⟨c,hcc⟩:∃ c,c=Za0 d (enode f):=⟨_,rfl⟩;have hcb1:c<=2199023255552:=by omega
 have hc1:1<c:=by omega
 rw[<- hcc] at hcx HPOST HCHG HLOW HLE;rw[<- hk] at hcx hfx HPOST HCHG hid0 HN hxl' HLOW HLE;have hk0:((k:Int) == 0)=false:=by simpa using hid0
 have hk1:0<k:=by omega
 have hcm':d.counts.length<=9223372036854775807:=by unfold maxLen at hcm;omega
 have hc3:(1:Int)<(c:Int):=by omega
 clear h hx hc hv hgo hlc hcm hfz hcell hk hcc htop htk hid0 hxl hfl hf
 go_enter Tryz.func174,Tryz.ntmps174
 go_wp2_with fail;refine(HN.out _).mono ?_;rintro x w' ⟨rfl,rfl⟩;go_wp2_with fail;refine bodyPost_ret (Zfc rfl _ _ _) rfl ⟨_,_,rfl,HPOST.out.1,HPOST.out.2,by simp,HLOW.out,(fun e=>by first|exact absurd e (by decide)|exact HLE.out (by simp)),HCHG.out⟩
theorem Zur {o:Own} {w:World} {sb:Nat} {d:Zag} {s:Za5} {rk:Nat->Nat} {ext:Nat->Int} {f m:Nat} (h:Znc o w sb d s rk ext f m) (hx:enode f=0) :
 Calls Tryz.prog 174 #[.pointer (some ⟨sb,0,none⟩),.int .i64 f] w (Zbm o w sb d s rk m true (addE ext f (-1))):=by
 have hf:f<eMax:=by have:=h.st.edge_lt h.ok;unfold eMax;omega
 have HPOST:Hid (Zbm o w sb d s rk m true (addE ext f (-1)) (.returned (.tuple #[])) w) :=
  ⟨d.counts,d.dead,rfl,h.st,h.live.congr (fun y b hb=>by
   have:y≠0:=by rintro rfl;rw[h.acy.none0] at hb;cases hb
   have e:f/2=0:=hx;simp[addE,toE,e,Ne.symm this]),rfl,fun _ _=>rfl,fun _ _=>Nat.le_refl _,Chg.refl _ _ _⟩
 have HN:=Hd (fun W=>Zcn f W hf);rw[hx] at HN;clear h hx hf
 go_enter Tryz.func174,Tryz.ntmps174
 go_wp2_with fail;refine(HN.out _).mono ?_;rintro x w' ⟨rfl,rfl⟩;go_wp2_with fail;refine bodyPost_ret (Zfc rfl _ _ _) rfl HPOST.out
theorem Zup {o:Own} {w:World} {sb:Nat} {d:Zag} {s:Za5} {rk:Nat->Nat} {ext:Nat->Int} {f m:Nat} (h:Znc o w sb d s rk ext f (m+1)) {b:BN} (hx:Zab d (enode f)=some b) (hc:Za0 d (enode f)=1)
 (ih:∀ w d ext f,Znc o w sb d s rk ext f m->Calls Tryz.prog 174 #[.pointer (some ⟨sb,0,none⟩),.int .i64 f] w (Zbm o w sb d s rk m true (addE ext f (-1)))) :
 Calls Tryz.prog 174 #[.pointer (some ⟨sb,0,none⟩),.int .i64 f] w (Zbm o w sb d s rk (m+1) true (addE ext f (-1))):=by
 have hfl:=h.st.edge_lt h.ok;have hf:f<eMax:=by unfold eMax;omega
 have hxl:=h.live.has _ _ hx;obtain⟨gc,cap,hv,hgo,hne,hlc,hcm,hfz,hcell⟩:=h.st.countsAt hxl;obtain⟨c0,c1,c2,c3,c4,f0⟩:=cells5 h.st.blk;rw[hv] at c3;have hcx:=hcell _ hxl;have hfx:=hfz (enode f);have htk:=h.st.tk_lt hx;have hlv:=h.live.lessDies hx hc;have hdb:d.dead<=1048577:=by
  have h1:=h.live.dead;have h2:=Zie (f:=dead1 (Zab d) (Za0 d)) (B:=1) d.pool.at_.length (fun i _=>by unfold dead1;split<;>first|omega|(split<;>omega));have h3:Zeb d.pool.at_.length (Zab d) (Za0 d)=Zay d.pool.at_.length (dead1 (Zab d) (Za0 d)):=rfl;omega
 have HLT:=Hd h.lt;have HLOW:∀ i,m+1<=rk i->(d.counts.set (enode f) 0).getD i 0=d.counts.getD i 0:=fun i hi=>by
  have:enode f≠i:=by
   rintro rfl;rcases h.low with h0|h0
   ·
    have:enode f=0:=h0;omega
   ·
    have e:f/2=enode f:=rfl;rw[e] at h0;omega
  simp only[List.getD,List.getElem?_set,if_neg this]
 have HLE:true=true->∀ i,(d.counts.set (enode f) 0).getD i 0<=d.counts.getD i 0:=fun _ i=>by
  by_cases e:enode f=i
  ·
   subst e;simp only[List.getD,List.getElem?_set];simp[hxl]
  ·
   simp only[List.getD,List.getElem?_set,if_neg e];omega
 have hrk:rk (enode f)<=m:=by
  rcases h.low with h0|h0
  ·
   have:enode f=0:=h0;omega
  ·
   have e:f/2=enode f:=rfl;rw[e] at h0;omega
 have hlow:∀ e,(okE (Zab d) e)->(∀ c,Zab d (e/2)=some c->rk (e/2)<rk (enode f))->e/2=0\/rk (e/2)<m:=fun e ho hr=>by
  rcases ho with h0|⟨c,hc⟩
  ·
   exact .inl h0
  ·
   exact .inr (by have:=hr c hc;omega)
 have st1:Zao o (w.setCell ⟨gc,enode f,none⟩ (.int .i64 ((0:Nat):Int))) sb (d.cd (d.counts.set (enode f) 0) d.dead) s:=h.st.setCount hv hne _ _;have hlt1:Zak o (w.setCell ⟨gc,enode f,none⟩ (.int .i64 ((0:Nat):Int))):=h.lt.mono (by simp[World.setCell]);have st2:Zao o ((w.setCell ⟨gc,enode f,none⟩ (.int .i64 ((0:Nat):Int))).setCell ⟨sb,4,none⟩ (.int .i64 ((d.dead+1:Nat):Int))) sb (d.cd (d.counts.set (enode f) 0) (d.dead+1)) s:=st1.setDead hlt1 _;have HCHG:=Hd (((Chg.refl RCnt o w).setCell (p:=⟨gc,enode f,none⟩) hgo (.inr rfl) (.int .i64 ((0:Nat):Int))).setCell (p:=⟨sb,4,none⟩) h.st.own (.inl rfl) (.int .i64 ((d.dead+1:Nat):Int)));have hlt2:Zak o ((w.setCell ⟨gc,enode f,none⟩ (.int .i64 ((0:Nat):Int))).setCell ⟨sb,4,none⟩ (.int .i64 ((d.dead+1:Nat):Int))):=hlt1.mono (by simp[World.setCell]);have hpa:=Za7 hx;have hbN:∃ N,N=d.pool.has (enode f)/\N.lo=b.lo/\N.hi=b.hi:=⟨_,rfl,by rw[<- hpa.2.2];rfl,by rw[<- hpa.2.2];rfl⟩;have hex:addE (addE (addE (addE (bump ext (enode f) (-1)) b.lo 1) b.hi 1) b.lo (-1)) b.hi (-1)=addE ext f (-1):=by
  funext y;have h1:=congrFun (Zle (ext:=ext) (f:=f)) y;have h2:enode f=f/2:=rfl;rw[h2,h1];simp only[addE];omega
 obtain⟨W2,hW2⟩:∃ W,W=(w.setCell ⟨gc,enode f,none⟩ (.int .i64 ((0:Nat):Int))).setCell ⟨sb,4,none⟩ (.int .i64 ((d.dead+1:Nat):Int)):=⟨_,rfl⟩;rw[<- hW2] at st2 HCHG hlt2;have HLT2:=Hd hlt2;have HPA:Hid (∀ W:World,Below W2.heap.size W2 W->Calls Tryz.prog 171 #[.pointer (some ⟨s.pb,0,none⟩),.int .i64 (enode f:Nat)] W fun x w'=>x=.returned (.tuple #[Za3 (d.pool.has (enode f)),.bool (d.pool.tk (enode f))])/\Below W.heap.size W w') :=
  Hd (fun W hb=>Zc4 o s.pb d.pool (enode f) W (st2.pool.below hb hlt2) (hlt2.mono hb.size))
 have HC1:Hid (∀ W:World,Below W2.heap.size W2 W->W.cell? ⟨sb,1,none⟩=some (.pointer (some ⟨s.pb,0,none⟩))):=Hd (fun W hb=>(cells5 (st2.below hlt2 hb).blk).2.1);have HLO:Hid (∀ W:World,Below W2.heap.size W2 W->Calls Tryz.prog 174 #[.pointer (some ⟨sb,0,none⟩),.int .i64 (b.lo:Nat)] W (Zbm o W sb (d.cd (d.counts.set (enode f) 0) (d.dead+1)) s rk m true (addE (addE (addE (bump ext (enode f) (-1)) b.lo 1) b.hi 1) b.lo (-1)))) :=
  Hd (fun W hb=>ih W _ _ b.lo ⟨st2.below hlt2 hb,hlt2.mono hb.size,h.acy,h.acy.okLo _ _ hx,hlv,fun y q hq=>Nat.le_trans (HLE rfl y) (h.top y q hq),fun y q hq=>by
   have h1:=h.pos y q hq;have h2:toE f y=if enode f=y then 1 else 0:=rfl
   have h3:=Zb6 b.lo y;have h4:=Zb6 b.hi y;simp only[addE,bump]
   by_cases e:y=enode f
   ·
    rw[if_pos e.symm] at h2;rw[if_pos e];omega
   ·
    rw[if_neg (Ne.symm e)] at h2;rw[if_neg e];omega,hlow b.lo (h.acy.okLo _ _ hx) (fun c hc=>h.acy.ltLo _ _ c hx hc)⟩)
 have HHI:Hid (∀ (W:World) (cs:List Nat) (dd:Nat),Zao o W sb ((d.cd (d.counts.set (enode f) 0) (d.dead+1)).cd cs dd) s->Zcc ((d.cd (d.counts.set (enode f) 0) (d.dead+1)).cd cs dd) (addE (addE (addE (bump ext (enode f) (-1)) b.lo 1) b.hi 1) b.lo (-1))->(true=true->∀ i,cs.getD i 0<=(d.counts.set (enode f) 0).getD i 0)->Chg RCnt o o w W ->
  Calls Tryz.prog 174 #[.pointer (some ⟨sb,0,none⟩),.int .i64 (b.hi:Nat)] W (Zbm o W sb ((d.cd (d.counts.set (enode f) 0) (d.dead+1)).cd cs dd) s rk m true (addE ext f (-1)))) :=
  Hd (fun W cs dd hs hl hle hch=>by
   rw[<- hex]
   exact ih W _ _ b.hi ⟨hs,HLT.out.mono hch.size,h.acy,h.acy.okHi _ _ hx,hl,fun y q hq=>Nat.le_trans (Nat.le_trans (hle rfl y) (HLE rfl y)) (h.top y q hq),fun y q hq=>by
    have h1:=h.pos y q hq;have h2:toE f y=if enode f=y then 1 else 0:=rfl
    have h3:=Zb6 b.lo y;have h4:=Zb6 b.hi y;simp only[addE,bump]
    by_cases e:y=enode f
    ·
     rw[if_pos e.symm] at h2;rw[if_pos e];omega
    ·
     rw[if_neg (Ne.symm e)] at h2;rw[if_neg e];omega,hlow b.hi (h.acy.okHi _ _ hx) (fun c hc=>h.acy.ltHi _ _ c hx hc)⟩)
 have HEND:Hid (∀ (W:World) (cs:List Nat) (dd:Nat),Zao o W sb (d.cd cs dd) s->Zcc (d.cd cs dd) (addE ext f (-1))->cs.length=(d.counts.set (enode f) 0).length->(∀ i,m+1<=rk i->cs.getD i 0=(d.counts.set (enode f) 0).getD i 0)->(true=true->∀ i,cs.getD i 0<=(d.counts.set (enode f) 0).getD i 0)->Chg RCnt o o w W ->
  Zbm o w sb d s rk (m+1) true (addE ext f (-1)) (.returned (.tuple #[])) W) :=
  fun W cs dd hs hl hlen hlw hle hch=>⟨cs,dd,rfl,hs,hl,by rw[hlen];simp,fun i hi=>(hlw i hi).trans (HLOW i hi),fun e i=>Nat.le_trans (hle e i) (HLE e i),hch⟩
 have HWE:Hid (W2=(w.setCell ⟨gc,enode f,none⟩ (.int .i64 0)).setCell ⟨sb,4,none⟩ (.int .i64 ((d.dead:Int)+1))):=by
  show _=_
  rw[hW2,show ((d.dead+1:Nat):Int)=(d.dead:Int)+1 from by omega];rfl
 have hid0:((enode f:Nat):Int)≠0:=by have:=htk.1;omega
 have HN:=Hd (fun W=>Zcn f W hf);have hne':sb≠gc:=fun e=>hne e.symm
 have hxl':((enode f:Nat):Int)<d.counts.length:=by omega
 obtain⟨N,hN,hNlo,hNhi⟩:=hbN;rw[<- hN] at HPA;rw[<- hNlo,<- hNhi] at HLO HHI;obtain⟨B,hB⟩:∃ B,B=d.pool.tk (enode f):=⟨_,rfl⟩;rw[<- hB] at HPA;rw[hc] at hcx;obtain⟨k,hk⟩:∃ k,k=enode f:=⟨_,rfl⟩;rw[<- hk] at hcx hfx HPA hid0 HN hxl' HWE;have hk0:((k:Int) == 0)=false:=by simpa using hid0
 have hk1:0<k:=by omega
 have hcm':d.counts.length<=9223372036854775807:=by unfold maxLen at hcm;omega
 obtain⟨dn,hdn⟩:∃ n,n=d.dead:=⟨_,rfl⟩;rw[<- hdn] at c4 hdb HWE;clear ih h hx hc hv hgo hlc hcm hfz hcell htk hid0 hxl hfl hf hlv st1 st2 hlt1 hlt2 HLOW HLE hrk hlow hW2 hex hN hNlo hNhi hB hdn hpa hk
 go_enter Tryz.func174,Tryz.ntmps174
 go_wp2_with fail;refine(HN.out _).mono ?_;rintro x w' ⟨rfl,rfl⟩;go_wp2_with fail;rw[<- HWE.out];refine(HPA.out W2 (Below.refl _ _)).mono ?_;rintro x v2 ⟨rfl,hb2⟩;unfold Za3;clear HWE c0 c1 c2 c3 c4 f0 hcx hfx HN hne hne' hxl' hk0 hk1 hcm' hdb;go_wp2_with fail;obtain⟨W3,hW3⟩:∃ W,W=v2.alloc (.cells #[.int .i64 N.id,.int .i64 N.v,.int .i64 N.lo,.int .i64 N.hi,.int .i64 N.refs] 199):=⟨_,rfl⟩;obtain⟨bx,hbx⟩:∃ bx,bx=v2.heap.size:=⟨_,rfl⟩;have hge:W2.heap.size<=bx:=by rw[hbx];exact hb2.size
 have hbf:Below W2.heap.size W2 W3:=by rw[hW3];exact hb2.alloc hb2.size _
 have hxf:W3.heap[bx]?=some (.cells #[.int .i64 N.id,.int .i64 N.v,.int .i64 N.lo,.int .i64 N.hi,.int .i64 N.refs] 199 (0,0)):=by rw[hW3,hbx];exact heap_alloc_new v2 _
 rw[<- hW3];rw[<- hbx];clear hW3 hbx hb2 HPA HC1;refine(HLO.out _ hbf).mono ?_;rintro x w1 ⟨cs1,dd1,rfl,st1,lv1,len1,low1,le1,chg1⟩;have hxg:=(chg1.alien (Array.getElem?_eq_some_iff.1 hxf).1 (HLT2.out.none hge)).trans hxf;obtain⟨z0,z1,z2,z3,z4,zz⟩:=cells5 hxg;have HS1:=Hd st1;have HL1:=Hd lv1;have HE1:=Hd len1;have HW1:=Hd low1;have HI1:=Hd le1;have HC3:=Hd ((HCHG.out.trans (Chg.of_below hbf RCnt o)).trans chg1);clear st1 lv1 len1 low1 le1 chg1 hxf hxg hbf;go_wp2_with fail;refine(HHI.out w1 cs1 dd1 HS1.out HL1.out (fun e=>by first|exact absurd e (by decide)|exact HI1.out (by simp)) HC3.out).mono ?_;rintro x w2 ⟨cs2,dd2,rfl,st2,lv2,len2,low2,le2,chg2⟩;have HFIN:=Hd (HEND.out w2 cs2 dd2 st2 lv2 (len2.trans HE1.out) (fun i hi=>(low2 i (by omega)).trans (HW1.out i (by omega))) (fun e i=>by first|exact absurd e (by decide)|exact Nat.le_trans (le2 (by simp) i) (HI1.out (by simp) i)) (HC3.out.trans chg2));clear st2 lv2 len2 low2 le2 chg2;go_wp2_with fail;refine bodyPost_end (Zfc rfl _ _ _) rfl HFIN.out
theorem Zft (o:Own) (sb:Nat) (s:Za5) (rk:Nat->Nat):∀ (m:Nat) (w:World) (d:Zag) (ext:Nat->Int) (f:Nat),Znc o w sb d s rk ext f m ->
 Calls Tryz.prog 174 #[.pointer (some ⟨sb,0,none⟩),.int .i64 f] w (Zbm o w sb d s rk m true (addE ext f (-1)))
 | m,w,d,ext,f,h=>by
   by_cases h0:enode f=0
   ·
    exact Zur h h0
   ·
    obtain⟨b,hx⟩:∃ b,Zab d (enode f)=some b:=h.ok.resolve_left h0
    have hp:0<Za0 d (enode f):=h.live.cnt.pos_of_ext hx (by
     have h1:=h.pos _ _ hx;rw[show toE f (enode f)=1 from Ziy f] at h1;omega)
    by_cases hc:1<Za0 d (enode f)
    ·
     exact Zuq h hx hc
    ·
     cases m with
     | zero=>exact absurd (h.low.resolve_left h0) (by omega)
     | succ m=>exact Zup h hx (by omega) (Zft o sb s rk m)
open Go.RowKit
def Ze2 (r:Role):Prop:=r=.pool\/r=.slots\/r=.taken\/r=.free
def Zas (r:Role):Prop:=r=.store\/r=.levels\/r=.vars\/r=.level\/Ze2 r\/r=.tabs\/(∃ v,r=.tab v\/r=.tmap v)\/r=.counts
section
variable {o o':Own} {w w':World} {sb:Nat} {d:Zag} {s:Za5}
theorem Zao.setPool (h:Zao o w sb d s) (hlt:Zak o w) {p':Zam} (hp:Zau o' w' s.pb p') (hc:Chg Ze2 o o' w w'):Zao o' w' sb { d with pool:=p' } s:=by
 have n:∀ {r},r ≠ .pool->r ≠ .slots->r ≠ .taken->r ≠ .free->¬ Ze2 r:=fun a b c d h=>by rcases h with h|h|h|h<;>contradiction
 exact⟨hc.ext _ _ h.own,hc.ext _ _ h.ownl,(hc.same hlt h.own (n (by simp) (by simp) (by simp) (by simp))).trans h.blk,(hc.same hlt h.ownl (n (by simp) (by simp) (by simp) (by simp))).trans h.lev,
  h.vars.chg hc hlt (n (by simp) (by simp) (by simp) (by simp)),h.level.chg hc hlt (n (by simp) (by simp) (by simp) (by simp)),hp,h.tabs.chg hc hlt (n (by simp) (by simp) (by simp) (by simp)),
  fun v hv=>(h.tab v hv).chg hc hlt (n (by simp) (by simp) (by simp) (by simp)) (n (by simp) (by simp) (by simp) (by simp)),h.counts.chg hc hlt (n (by simp) (by simp) (by simp) (by simp)),h.len,h.tlen⟩
theorem Zao.setTab (h:Zao o w sb d s) (hlt:Zak o w) {v:Nat} {f':Nat×Nat->Option Nat} (ht:Zde o' w' v (s.ts.getD v 0) f') (hc:Chg (· = .tmap v) o o' w w'):Zao o' w' sb { d with tab:=fun u=>if u=v then f' else d.tab u } s:=by
 refine⟨hc.ext _ _ h.own,hc.ext _ _ h.ownl,(hc.same hlt h.own (by simp)).trans h.blk,(hc.same hlt h.ownl (by simp)).trans h.lev,
  h.vars.chg hc hlt (by simp),h.level.chg hc hlt (by simp),h.pool.chg hc hlt (by simp) (by simp) (by simp) (by simp),h.tabs.chg hc hlt (by simp),
  fun u hu=>?_,h.counts.chg hc hlt (by simp),h.len,h.tlen⟩
 dsimp only
 by_cases e:u=v
 ·
  subst e;rw[if_pos rfl];exact ht
 ·
  rw[if_neg e];exact(h.tab u hu).chg hc hlt (by simp) (by simpa using e)
end
def Za2 (d:Zag):Nat->Int:=fun i=>if d.pool.tk i=true then ((d.pool.nd i).refs:Int) else 0
structure Zf0 (d d':Zag) (f:Nat) (sg:Int):Prop where
 vars:d'.vars=d.vars
 level:d'.level=d.level
 tab:d'.tab=d.tab
 nodes:Zab d'=Zab d
 many:d'.pool.many=d.pool.many
 free:d'.pool.free=d.pool.free
 room:d'.pool.room=d.pool.room
 len:d'.pool.at_.length=d.pool.at_.length
 clen:d'.counts.length=d.counts.length
 ext:∀ i,i≠0->Za2 d' i=Za2 d i+sg*toE f i
 live:Zcc d' (Za2 d')
def Zev (o:Own) (w:World) (sb:Nat) (d:Zag) (s:Za5) (f:Nat) (sg:Int) (e:Ending) (w':World):Prop :=
 ∃ d',e=.returned (.int .i64 0)/\Zao o w' sb d' s/\Zak o w'/\Zf0 d d' f sg/\Chg Zas o o w w'
theorem Ziv:∀ r,RCnt r->Zas r:=fun r h=>by rcases h with h|h<;>simp[Zas,h]
theorem Zgj:∀ r:Role,r=.slots->Zas r:=fun r h=>by simp[Zas,Ze2,h]
def RN.ref (n:RN) (k:Nat):RN:={ n with refs:=k }
theorem Zgk {d:Zag} {x k:Nat} (hk:x<d.pool.at_.length) (ht:d.pool.tk x=true):Zab { d with pool:=d.pool.setNd x ((d.pool.nd x).ref k) }=Zab d:=by
 funext i;unfold Zab;rw[Zam.setNd_get hk ht]
 by_cases e:i=x
 ·
  subst e;simp[Zam.get,ht,RN.ref,bnOf]
 ·
  rw[if_neg e]
theorem Zgv {d:Zag} {x k:Nat} (hk:x<d.pool.at_.length) (ht:d.pool.tk x=true):Za2 { d with pool:=d.pool.setNd x ((d.pool.nd x).ref k) }=fun i=>if i=x then (k:Int) else Za2 d i:=by
 funext i;unfold Za2;have h1:(d.pool.setNd x ((d.pool.nd x).ref k)).tk i=d.pool.tk i:=rfl;have h2:(d.pool.setNd x ((d.pool.nd x).ref k)).nd i=if i=x then (d.pool.nd x).ref k else d.pool.nd i:=Zh3 hk i
 dsimp only;rw[h1,h2]
 by_cases e:i=x
 ·
  subst e;simp[ht,RN.ref]
 ·
  simp[e]
theorem Zci {d:Zag} {x:Nat} (ht:d.pool.tk x=true):Za2 d x=((d.pool.nd x).refs:Int):=by simp[Za2,ht]
theorem Zkn {d:Zag} {x k:Nat} {ext:Nat->Int} (hk:x<d.pool.at_.length) (ht:d.pool.tk x=true) (h:Zcc d ext):Zcc { d with pool:=d.pool.setNd x ((d.pool.nd x).ref k) } ext:=by
 have hn:=Zgk (k:=k) hk ht;have hL:({ d with pool:=d.pool.setNd x ((d.pool.nd x).ref k) }:Zag).pool.at_.length=d.pool.at_.length:=by simp[Zam.setNd]
 refine⟨?_,?_,?_⟩
 ·
  rw[hn,hL];exact h.cnt
 ·
  rw[hn,hL];exact h.dead
 ·
  rw[hn];exact h.has
theorem Zk9 {o:Own} {w:World} {sb:Nat} {d:Zag} {s:Za5} (h:Zao o w sb d s) (hlt:Zak o w) (hl:Zcc d (Za2 d)) (f:Nat) (hf:f<eMax) (hx:enode f=0) :
 Calls Tryz.prog 201 #[.pointer (some ⟨sb,0,none⟩),.int .i64 f] w (Zev o w sb d s f 1):=by
 obtain⟨c0,c1,c2,c3,c4,f0⟩:=cells5 h.blk;have lsb:sb<w.heap.size:=Zaa c0;have HPOST:Hid (∀ W:World,Below w.heap.size w W->Zev o w sb d s f 1 (.returned (.int .i64 0)) W):=fun W hb =>
  ⟨d,rfl,h.below hlt hb,hlt.mono hb.size,⟨rfl,rfl,rfl,rfl,rfl,rfl,rfl,rfl,rfl,fun i hi=>by
   have e:f/2=0:=hx;simp[toE,e,Ne.symm hi],hl⟩,Chg.of_below hb _ _⟩
 have hisv:(decide (enode f=0)||d.pool.tk (enode f))=true:=by rw[hx];rfl
 have HIS:Hid (∀ W:World,Below w.heap.size w W->Calls Tryz.prog 146 #[.pointer (some ⟨sb,0,none⟩),.int .i64 f] W fun x w'=>x=.returned (.bool true)/\Below W.heap.size W w'):=fun W hb=>by
  have h1:=Zbj (h.below hlt hb) (hlt.mono hb.size) f hf;rw[hisv] at h1;exact h1
 have htk:d.pool.tk 0=false:=h.pool.zero;have HPA:Hid (∀ W:World,Below w.heap.size w W->Calls Tryz.prog 171 #[.pointer (some ⟨s.pb,0,none⟩),.int .i64 (enode f:Nat)] W fun x w'=>x=.returned (.tuple #[Za3 (d.pool.has (enode f)),.bool (d.pool.tk (enode f))])/\Below W.heap.size W w') :=
  Hd (fun W hb=>Zc4 o s.pb d.pool (enode f) W (h.pool.below hb hlt) (hlt.mono hb.size))
 have HC1:Hid (∀ W:World,Below w.heap.size w W->W.cell? ⟨sb,1,none⟩=some (.pointer (some ⟨s.pb,0,none⟩))):=Hd (fun W hb=>(hb.cell (p:=⟨sb,1,none⟩) lsb).trans c1);have HN:=Hd (fun W=>Zcn f W hf);have htk':d.pool.tk (enode f)=false:=by rw[hx];exact htk
 obtain⟨N,hN⟩:∃ N,N=d.pool.has (enode f):=⟨_,rfl⟩;obtain⟨B,hB⟩:∃ B,B=d.pool.tk (enode f):=⟨_,rfl⟩;obtain⟨k,hk⟩:∃ k,k=enode f:=⟨_,rfl⟩;rw[<- hN,<- hB,<- hk] at HPA;rw[<- hk] at HN;have HB:=Hd (hB.trans htk');clear h hlt hl hf hx hisv c0 c1 c2 c3 c4 f0 lsb htk htk' hN hk hB
 go_enter Tryz.func201,Tryz.ntmps201
 go_wp2_with fail;refine(HIS.out _ (Below.refl _ _)).mono ?_;rintro x w1 ⟨rfl,hb1⟩;have HB1:=Hd hb1;clear hb1;go_upto_region 5 with fail;refine Zbo (fun W:World=>Below w.heap.size w W) 13 (by kernel_rfl) (Zaj HB1.out 1) ?_;refine Zac 0 rfl rfl (by kernel_rfl) ?_;apply Exists.intro;refine⟨fun w' hw=>?_,?_⟩
 ·
  have hc1:=HC1.out w' hw;go_simp;rfl
 simp only[Zah];refine Zac 1 rfl rfl (by kernel_rfl) ?_;apply Exists.intro;refine⟨fun w' hw=>?_,?_⟩
 ·
  have hc1:=HC1.out w' hw;go_simp;rfl
 simp only[Zah];refine Zac 2 rfl rfl (by kernel_rfl) ?_;apply Exists.intro;refine⟨fun w' hw=>?_,?_⟩
 ·
  have hc1:=HC1.out w' hw;go_simp;rfl
 simp only[Zah];refine Zac 3 rfl rfl (by kernel_rfl) ?_;apply Exists.intro;refine⟨fun w' hw=>?_,?_⟩
 ·
  have hc1:=HC1.out w' hw;go_simp;rfl
 simp only[Zah];refine Zac 4 rfl rfl (by kernel_rfl) ?_;apply Exists.intro;refine⟨fun w' hw=>?_,?_⟩
 ·
  have hc1:=HC1.out w' hw;go_simp;rfl
 simp only[Zah];refine Zal [5,10] (by kernel_rfl) (fun i hi hS o ho=>?_);simp only[Za6] at hi;rcases hi with rfl|rfl
 ·
  skip
  simp only[Za1] at ho;subst ho;refine⟨rfl,?_⟩;refine Zat (v:=(.int .i64 k)) (R:=fun w'=>w1.drew=w') (by go_simp) (HN.out _) ?_;rintro w' rfl;refine⟨(Zaj HB1.out 1),?_⟩;simp only[Zah];refine Zal [6,10] (by kernel_rfl) (fun i hi hS o ho=>?_);simp only[Za6] at hi;rcases hi with rfl|rfl
  ·
   skip
   simp only[Za1] at ho;subst ho;refine⟨rfl,?_⟩;refine Zat (v:=(.tuple #[Za3 N,.bool B])) (R:=fun w'=>Below (w1.drew).heap.size (w1.drew) w') (by go_simp) (HPA.out _ (Zaj HB1.out 1)) ?_;intro v2 hv2;have hb2:=(Zaj HB1.out 1).trans (hv2.mono (Zaj HB1.out 1).size);refine⟨hb2,?_⟩;simp only[Zah];unfold Za3;refine Zac 7 rfl rfl (by kernel_rfl) ?_;apply Exists.intro;refine⟨fun w' hw=>?_,?_⟩
   ·
    clear hw;go_simp;rfl
   simp only[Zah];refine Zac 8 rfl rfl (by kernel_rfl) ?_;apply Exists.intro;refine⟨fun w' hw=>?_,?_⟩
   ·
    clear hw;go_simp;rfl
   simp only[Zah];refine Zac 9 rfl rfl (by kernel_rfl) ?_;apply Exists.intro;refine⟨fun w' hw=>?_,?_⟩
   ·
    clear hw;go_simp;rfl
   simp only[Zah];refine Zal [10] (by kernel_rfl) (fun i hi hS o ho=>?_);simp only[Za6] at hi;subst hi;simp only[Za1] at ho;subst ho;refine⟨rfl,?_⟩;have hb3:=hb2.trans ((Zad (v2) (.cells #[.int .i64 0,.int .i64 0,.int .i64 0,.int .i64 0,.int .i64 0] 199)).mono hb2.size);have hx3:=heap_alloc_new (v2) (.cells #[.int .i64 0,.int .i64 0,.int .i64 0,.int .i64 0,.int .i64 0] 199);have hge:w.heap.size<=(v2).heap.size:=hb2.size;refine Zaz (v:=.pointer (some ⟨(v2).heap.size,0,none⟩)) (w':=(v2).alloc (.cells #[.int .i64 0,.int .i64 0,.int .i64 0,.int .i64 0,.int .i64 0] 199)) (by go_simp) ⟨hb3,?_⟩;simp only[Zah];obtain⟨bx,hbx⟩:∃ bx,bx=(v2).heap.size:=⟨_,rfl⟩;rw[<- hbx] at hx3 hge ⊢;obtain⟨u3,hu3⟩:∃ u,u=(v2).alloc (.cells #[.int .i64 0,.int .i64 0,.int .i64 0,.int .i64 0,.int .i64 0] 199):=⟨_,rfl⟩;rw[<- hu3] at hx3 hb3 ⊢;clear hu3 hbx;refine Zal [11] (by kernel_rfl) (fun i hi hS o ho=>?_);simp only[Za6] at hi;subst hi;simp only[Za1] at ho;subst ho;refine⟨rfl,?_⟩;obtain⟨e0,e1,e2,e3,e4,fz⟩:=cells5 hx3;refine Za9 (w':=set5 u3 bx 0 N) rfl (Zaw (k:=0) fz e0 e1 e2 e3 e4 _ _ _ _ _) ?_;have hbf:Below w.heap.size w (set5 u3 bx 0 N):=Zbc hb3 hge N;have hxf:=Zbn hx3 N;refine⟨hbf,?_⟩;simp only[Zah];clear e0 e1 e2 e3 e4 fz;refine Zac 12 rfl rfl (by kernel_rfl) ?_;apply Exists.intro;refine⟨fun w' hw=>?_,?_⟩
   ·
    clear hw;go_simp;rfl
   simp only[Zah];refine Zbk (by kernel_rfl) ?_;obtain rfl:B=false:=HB.out;have HBF:=Hd hbf;obtain⟨W3,hW3⟩:∃ W,W=set5 u3 bx 0 N:=⟨_,rfl⟩;rw[<- hW3] at HBF ⊢;clear hW3 hbf hxf HPA HN HIS HC1 HB1 HB;go_wp2_with fail;go_ret;exact HPOST.out _ HBF.out
  ·
   skip
   simp only[Za1] at ho;subst ho;refine⟨rfl,?_⟩;have hb4:=(Zaj HB1.out 1).trans ((Zad (w1.drew) (.cells #[.int .i64 0,.int .i64 0,.int .i64 0,.int .i64 0,.int .i64 0] 199)).mono (Zaj HB1.out 1).size);have hx4:=heap_alloc_new (w1.drew) (.cells #[.int .i64 0,.int .i64 0,.int .i64 0,.int .i64 0,.int .i64 0] 199);have hge:w.heap.size<=(w1.drew).heap.size:=(Zaj HB1.out 1).size;refine Zaz (v:=.pointer (some ⟨(w1.drew).heap.size,0,none⟩)) (w':=(w1.drew).alloc (.cells #[.int .i64 0,.int .i64 0,.int .i64 0,.int .i64 0,.int .i64 0] 199)) (by go_simp) ⟨hb4,?_⟩;simp only[Zah];obtain⟨bx,hbx⟩:∃ bx,bx=(w1.drew).heap.size:=⟨_,rfl⟩;rw[<- hbx] at hx4 hge ⊢;obtain⟨u4,hu4⟩:∃ u,u=(w1.drew).alloc (.cells #[.int .i64 0,.int .i64 0,.int .i64 0,.int .i64 0,.int .i64 0] 199):=⟨_,rfl⟩;rw[<- hu4] at hx4 hb4 ⊢;clear hu4 hbx;refine Zal [6] (by kernel_rfl) (fun i hi hS o ho=>?_);simp only[Za6] at hi;subst hi;simp only[Za1] at ho;subst ho;refine⟨rfl,?_⟩;refine Zat (v:=(.tuple #[Za3 N,.bool B])) (R:=fun w'=>Below (u4).heap.size (u4) w') (by go_simp) (HPA.out _ hb4) ?_;intro v5 hv5;have hb5:=hb4.trans (hv5.mono hb4.size);refine⟨hb5,?_⟩;simp only[Zah];unfold Za3;have hx5:=(hv5.block _ (Array.getElem?_eq_some_iff.1 hx4).1).trans hx4;refine Zac 7 rfl rfl (by kernel_rfl) ?_;apply Exists.intro;refine⟨fun w' hw=>?_,?_⟩
   ·
    clear hw;go_simp;rfl
   simp only[Zah];refine Zac 8 rfl rfl (by kernel_rfl) ?_;apply Exists.intro;refine⟨fun w' hw=>?_,?_⟩
   ·
    clear hw;go_simp;rfl
   simp only[Zah];refine Zac 9 rfl rfl (by kernel_rfl) ?_;apply Exists.intro;refine⟨fun w' hw=>?_,?_⟩
   ·
    clear hw;go_simp;rfl
   simp only[Zah];refine Zal [11] (by kernel_rfl) (fun i hi hS o ho=>?_);simp only[Za6] at hi;subst hi;simp only[Za1] at ho;subst ho;refine⟨rfl,?_⟩;obtain⟨e0,e1,e2,e3,e4,fz⟩:=cells5 hx5;refine Za9 (w':=set5 v5 bx 0 N) rfl (Zaw (k:=0) fz e0 e1 e2 e3 e4 _ _ _ _ _) ?_;have hbf:Below w.heap.size w (set5 v5 bx 0 N):=Zbc hb5 hge N;have hxf:=Zbn hx5 N;refine⟨hbf,?_⟩;simp only[Zah];clear e0 e1 e2 e3 e4 fz;refine Zac 12 rfl rfl (by kernel_rfl) ?_;apply Exists.intro;refine⟨fun w' hw=>?_,?_⟩
   ·
    clear hw;go_simp;rfl
   simp only[Zah];refine Zbk (by kernel_rfl) ?_;obtain rfl:B=false:=HB.out;have HBF:=Hd hbf;obtain⟨W3,hW3⟩:∃ W,W=set5 v5 bx 0 N:=⟨_,rfl⟩;rw[<- hW3] at HBF ⊢;clear hW3 hbf hxf HPA HN HIS HC1 HB1 HB;go_wp2_with fail;go_ret;exact HPOST.out _ HBF.out
 ·
  skip
  simp only[Za1] at ho;subst ho;refine⟨rfl,?_⟩;have hb6:=(Zaj HB1.out 1).trans ((Zad (w1.drew) (.cells #[.int .i64 0,.int .i64 0,.int .i64 0,.int .i64 0,.int .i64 0] 199)).mono (Zaj HB1.out 1).size);have hx6:=heap_alloc_new (w1.drew) (.cells #[.int .i64 0,.int .i64 0,.int .i64 0,.int .i64 0,.int .i64 0] 199);have hge:w.heap.size<=(w1.drew).heap.size:=(Zaj HB1.out 1).size;refine Zaz (v:=.pointer (some ⟨(w1.drew).heap.size,0,none⟩)) (w':=(w1.drew).alloc (.cells #[.int .i64 0,.int .i64 0,.int .i64 0,.int .i64 0,.int .i64 0] 199)) (by go_simp) ⟨hb6,?_⟩;simp only[Zah];obtain⟨bx,hbx⟩:∃ bx,bx=(w1.drew).heap.size:=⟨_,rfl⟩;rw[<- hbx] at hx6 hge ⊢;obtain⟨u6,hu6⟩:∃ u,u=(w1.drew).alloc (.cells #[.int .i64 0,.int .i64 0,.int .i64 0,.int .i64 0,.int .i64 0] 199):=⟨_,rfl⟩;rw[<- hu6] at hx6 hb6 ⊢;clear hu6 hbx;refine Zal [5] (by kernel_rfl) (fun i hi hS o ho=>?_);simp only[Za6] at hi;subst hi;simp only[Za1] at ho;subst ho;refine⟨rfl,?_⟩;refine Zat (v:=(.int .i64 k)) (R:=fun w'=>u6=w') (by go_simp) (HN.out _) ?_;rintro w' rfl;refine⟨hb6,?_⟩;simp only[Zah];refine Zal [6] (by kernel_rfl) (fun i hi hS o ho=>?_);simp only[Za6] at hi;subst hi;simp only[Za1] at ho;subst ho;refine⟨rfl,?_⟩;refine Zat (v:=(.tuple #[Za3 N,.bool B])) (R:=fun w'=>Below (u6).heap.size (u6) w') (by go_simp) (HPA.out _ hb6) ?_;intro v8 hv8;have hb8:=hb6.trans (hv8.mono hb6.size);refine⟨hb8,?_⟩;simp only[Zah];unfold Za3;have hx8:=(hv8.block _ (Array.getElem?_eq_some_iff.1 hx6).1).trans hx6;refine Zac 7 rfl rfl (by kernel_rfl) ?_;apply Exists.intro;refine⟨fun w' hw=>?_,?_⟩
  ·
   clear hw;go_simp;rfl
  simp only[Zah];refine Zac 8 rfl rfl (by kernel_rfl) ?_;apply Exists.intro;refine⟨fun w' hw=>?_,?_⟩
  ·
   clear hw;go_simp;rfl
  simp only[Zah];refine Zac 9 rfl rfl (by kernel_rfl) ?_;apply Exists.intro;refine⟨fun w' hw=>?_,?_⟩
  ·
   clear hw;go_simp;rfl
  simp only[Zah];refine Zal [11] (by kernel_rfl) (fun i hi hS o ho=>?_);simp only[Za6] at hi;subst hi;simp only[Za1] at ho;subst ho;refine⟨rfl,?_⟩;obtain⟨e0,e1,e2,e3,e4,fz⟩:=cells5 hx8;refine Za9 (w':=set5 v8 bx 0 N) rfl (Zaw (k:=0) fz e0 e1 e2 e3 e4 _ _ _ _ _) ?_;have hbf:Below w.heap.size w (set5 v8 bx 0 N):=Zbc hb8 hge N;have hxf:=Zbn hx8 N;refine⟨hbf,?_⟩;simp only[Zah];clear e0 e1 e2 e3 e4 fz;refine Zac 12 rfl rfl (by kernel_rfl) ?_;apply Exists.intro;refine⟨fun w' hw=>?_,?_⟩
  ·
   clear hw;go_simp;rfl
  simp only[Zah];refine Zbk (by kernel_rfl) ?_;obtain rfl:B=false:=HB.out;have HBF:=Hd hbf;obtain⟨W3,hW3⟩:∃ W,W=set5 v8 bx 0 N:=⟨_,rfl⟩;rw[<- hW3] at HBF ⊢;clear hW3 hbf hxf HPA HN HIS HC1 HB1 HB;go_wp2_with fail;go_ret;exact HPOST.out _ HBF.out
theorem Zk8 {o:Own} {w:World} {sb:Nat} {d:Zag} {s:Za5} (h:Zao o w sb d s) (hlt:Zak o w) (hl:Zcc d (Za2 d)) {rk:Nat->Nat} (ha:Acy (Zab d) rk) (f:Nat) {b:BN} (hx:Zab d (enode f)=some b)
 (htop:∀ y b,Zab d y=some b->Za2 d y<1099511627776) :
 Calls Tryz.prog 201 #[.pointer (some ⟨sb,0,none⟩),.int .i64 f] w (Zev o w sb d s f 1):=by
 obtain⟨c0,c1,c2,c3,c4,f0⟩:=cells5 h.blk;have lsb:sb<w.heap.size:=Zaa c0;have hok:okE (Zab d) f:=.inr ⟨b,hx⟩;have hf:f<eMax:=by have:=h.edge_lt hok;unfold eMax;omega
 have hns:=Za7 hx;have htl:=h.tk_lt hx;have hrf:(d.pool.nd (enode f)).refs<1099511627776:=by have:=htop _ _ hx;rw[Zci hns.1] at this;omega
 have hid:(d.pool.nd (enode f)).id=enode f:=h.pool.id _ hns.1;have hisv:(decide (enode f=0)||d.pool.tk (enode f))=true:=by rw[hns.1];simp
 have HIS:Hid (∀ W:World,Below w.heap.size w W->Calls Tryz.prog 146 #[.pointer (some ⟨sb,0,none⟩),.int .i64 f] W fun x w'=>x=.returned (.bool true)/\Below W.heap.size W w'):=fun W hb=>by
  have h1:=Zbj (h.below hlt hb) (hlt.mono hb.size) f hf;rw[hisv] at h1;exact h1
 have HPA:Hid (∀ W:World,Below w.heap.size w W->Calls Tryz.prog 171 #[.pointer (some ⟨s.pb,0,none⟩),.int .i64 (enode f:Nat)] W fun x w'=>x=.returned (.tuple #[Za3 (d.pool.has (enode f)),.bool (d.pool.tk (enode f))])/\Below W.heap.size W w') :=
  Hd (fun W hb=>Zc4 o s.pb d.pool (enode f) W (h.pool.below hb hlt) (hlt.mono hb.size))
 have HC1:Hid (∀ W:World,Below w.heap.size w W->W.cell? ⟨sb,1,none⟩=some (.pointer (some ⟨s.pb,0,none⟩))):=Hd (fun W hb=>(hb.cell (p:=⟨sb,1,none⟩) lsb).trans c1);have HN:=Hd (fun W=>Zcn f W hf);obtain⟨r,hr⟩:∃ r,r=(d.pool.nd (enode f)).refs:=⟨_,rfl⟩
 skip
 have HSET:Hid (∀ W:World,Below w.heap.size w W->Calls Tryz.prog 173 #[.pointer (some ⟨s.pb,0,none⟩),Za3 ((d.pool.nd (enode f)).ref (r+1))] W fun x w'=>x=.returned (.int .i64 0)/\Zao o w' sb { d with pool:=d.pool.setNd (enode f) ((d.pool.nd (enode f)).ref (r+1)) } s/\Chg Zas o o w w'/\Zak o w'):=fun W hb=>by
  have hi':d.pool.tk ((d.pool.nd (enode f)).ref (r+1)).id=true:=by show d.pool.tk (d.pool.nd (enode f)).id=true;rw[hid];exact hns.1
  refine(Zhk o s.pb d.pool ((d.pool.nd (enode f)).ref (r+1)) W (h.pool.below hb hlt) (hlt.mono hb.size) hi').mono ?_;rintro e w' ⟨rfl,hp,hc,hl'⟩;have e1:((d.pool.nd (enode f)).ref (r+1)).id=enode f:=hid;rw[e1] at hp;exact⟨rfl,(h.below hlt hb).setPool (hlt.mono hb.size) hp (hc.mono (fun r hr=>by simp[Ze2,hr])),(Chg.of_below hb _ _).trans (hc.mono Zgj),hl'⟩
 have HMORE:Hid (∀ (W:World),Zao o W sb { d with pool:=d.pool.setNd (enode f) ((d.pool.nd (enode f)).ref (r+1)) } s->Zak o W->Chg Zas o o w W ->
  Calls Tryz.prog 220 #[.pointer (some ⟨sb,0,none⟩),.int .i64 f] W fun e w'=>e=.returned (.tuple #[])/\Zev o w sb d s f 1 (.returned (.int .i64 0)) w'):=fun W hs hl' hch=>by
  have hnd:=Zgk (d:=d) (k:=r+1) htl.2.1 hns.1
  refine(Zfu o sb s rk (rk (enode f)+1) W _ (Za2 d) f ⟨hs,hl',by rw[hnd];exact ha,by rw[hnd];exact hok,Zkn htl.2.1 hns.1 hl,fun y q hq=>(by
   rw[hnd] at hq;have h1:=htop y q hq;have h2:toE f y<=1:=by unfold toE;split<;>omega
   omega),.inr (Nat.lt_succ_self _)⟩).mono ?_
  rintro e w' ⟨cs,dd,rfl,hs2,hl2,hcl,_,_,hc2⟩;refine⟨rfl,_,rfl,hs2,hl'.mono hc2.size,⟨rfl,rfl,rfl,hnd,rfl,rfl,rfl,by simp[Zag.cd,Zam.setNd],hcl,fun i hi=>?_,hl2.congr (fun y b' hb'=>?_)⟩,hch.trans (hc2.mono Ziv)⟩
  ·
   show Za2 { d with pool:=d.pool.setNd (enode f) ((d.pool.nd (enode f)).ref (r+1)) } i=_
   rw[Zgv htl.2.1 hns.1];dsimp only;unfold toE
   by_cases e:i=enode f
   ·
    have e':f/2=i:=e.symm;rw[if_pos e,if_pos e',e,Zci hns.1,<- hr];omega
   ·
    have e':¬ f/2=i:=fun h'=>e h'.symm
    rw[if_neg e,if_neg e'];omega
  ·
   show Za2 { d with pool:=d.pool.setNd (enode f) ((d.pool.nd (enode f)).ref (r+1)) } y=_
   rw[Zgv htl.2.1 hns.1];dsimp only;unfold addE toE
   by_cases e:y=enode f
   ·
    have e':f/2=y:=e.symm;rw[if_pos e,if_pos e',e,Zci hns.1,<- hr];omega
   ·
    have e':¬ f/2=y:=fun h'=>e h'.symm
    rw[if_neg e,if_neg e'];omega
 have hNn:d.pool.has (enode f)=d.pool.nd (enode f):=hns.2.1;rw[hNn] at HPA;have HREF:Hid (Za3 ((d.pool.nd (enode f)).ref (r+1))=.agg #[.int .i64 (d.pool.nd (enode f)).id,.int .i64 (d.pool.nd (enode f)).v,.int .i64 (d.pool.nd (enode f)).lo,.int .i64 (d.pool.nd (enode f)).hi,.int .i64 ((r:Int)+1)]):=by
  show _=_
  unfold Za3 RN.ref;dsimp only;rw[show ((r+1:Nat):Int)=(r:Int)+1 from by omega]
 rw[hns.1] at HPA;rw[<- hr] at hrf;obtain⟨N,hN⟩:∃ N,N=d.pool.nd (enode f):=⟨_,rfl⟩;have hNr:N.refs=r:=by rw[hN,hr]
 rw[<- hN] at HPA HREF HSET HMORE;obtain⟨B,hB⟩:∃ B,B=true:=⟨_,rfl⟩;rw[<- hB] at HPA;obtain⟨k,hk⟩:∃ k,k=enode f:=⟨_,rfl⟩;rw[<- hk] at HPA HN;have HBT:=Hd hB;have HNR:=Hd hNr;have HW0:=Hd hk;clear h hlt hl ha hx htop hf hns hisv htl hid hr hNn hN hB hk hok c0 c1 c2 c3 c4 f0 lsb hNr
 go_enter Tryz.func201,Tryz.ntmps201
 go_wp2_with fail;refine(HIS.out _ (Below.refl _ _)).mono ?_;rintro x w1 ⟨rfl,hb1⟩;have HB1:=Hd hb1;clear hb1 HIS;go_upto_region 5 with fail;refine Zbo (fun W:World=>Below w.heap.size w W) 13 (by kernel_rfl) (Zaj HB1.out 1) ?_;refine Zac 0 rfl rfl (by kernel_rfl) ?_;apply Exists.intro;refine⟨fun w' hw=>?_,?_⟩
 ·
  have hc1:=HC1.out w' hw;go_simp;rfl
 simp only[Zah];refine Zac 1 rfl rfl (by kernel_rfl) ?_;apply Exists.intro;refine⟨fun w' hw=>?_,?_⟩
 ·
  have hc1:=HC1.out w' hw;go_simp;rfl
 simp only[Zah];refine Zac 2 rfl rfl (by kernel_rfl) ?_;apply Exists.intro;refine⟨fun w' hw=>?_,?_⟩
 ·
  have hc1:=HC1.out w' hw;go_simp;rfl
 simp only[Zah];refine Zac 3 rfl rfl (by kernel_rfl) ?_;apply Exists.intro;refine⟨fun w' hw=>?_,?_⟩
 ·
  have hc1:=HC1.out w' hw;go_simp;rfl
 simp only[Zah];refine Zac 4 rfl rfl (by kernel_rfl) ?_;apply Exists.intro;refine⟨fun w' hw=>?_,?_⟩
 ·
  have hc1:=HC1.out w' hw;go_simp;rfl
 simp only[Zah];refine Zal [5,10] (by kernel_rfl) (fun i hi hS o ho=>?_);simp only[Za6] at hi;rcases hi with rfl|rfl
 ·
  skip
  simp only[Za1] at ho;subst ho;refine⟨rfl,?_⟩;refine Zat (v:=(.int .i64 k)) (R:=fun w'=>w1.drew=w') (by go_simp) (HN.out _) ?_;rintro w' rfl;refine⟨(Zaj HB1.out 1),?_⟩;simp only[Zah];refine Zal [6,10] (by kernel_rfl) (fun i hi hS o ho=>?_);simp only[Za6] at hi;rcases hi with rfl|rfl
  ·
   skip
   simp only[Za1] at ho;subst ho;refine⟨rfl,?_⟩;refine Zat (v:=(.tuple #[Za3 N,.bool B])) (R:=fun w'=>Below (w1.drew).heap.size (w1.drew) w') (by go_simp) (HPA.out _ (Zaj HB1.out 1)) ?_;intro v2 hv2;have hb2:=(Zaj HB1.out 1).trans (hv2.mono (Zaj HB1.out 1).size);refine⟨hb2,?_⟩;simp only[Zah];unfold Za3;refine Zac 7 rfl rfl (by kernel_rfl) ?_;apply Exists.intro;refine⟨fun w' hw=>?_,?_⟩
   ·
    clear hw;go_simp;rfl
   simp only[Zah];refine Zac 8 rfl rfl (by kernel_rfl) ?_;apply Exists.intro;refine⟨fun w' hw=>?_,?_⟩
   ·
    clear hw;go_simp;rfl
   simp only[Zah];refine Zac 9 rfl rfl (by kernel_rfl) ?_;apply Exists.intro;refine⟨fun w' hw=>?_,?_⟩
   ·
    clear hw;go_simp;rfl
   simp only[Zah];refine Zal [10] (by kernel_rfl) (fun i hi hS o ho=>?_);simp only[Za6] at hi;subst hi;simp only[Za1] at ho;subst ho;refine⟨rfl,?_⟩;have hb3:=hb2.trans ((Zad (v2) (.cells #[.int .i64 0,.int .i64 0,.int .i64 0,.int .i64 0,.int .i64 0] 199)).mono hb2.size);have hx3:=heap_alloc_new (v2) (.cells #[.int .i64 0,.int .i64 0,.int .i64 0,.int .i64 0,.int .i64 0] 199);have hge:w.heap.size<=(v2).heap.size:=hb2.size;refine Zaz (v:=.pointer (some ⟨(v2).heap.size,0,none⟩)) (w':=(v2).alloc (.cells #[.int .i64 0,.int .i64 0,.int .i64 0,.int .i64 0,.int .i64 0] 199)) (by go_simp) ⟨hb3,?_⟩;simp only[Zah];obtain⟨bx,hbx⟩:∃ bx,bx=(v2).heap.size:=⟨_,rfl⟩;rw[<- hbx] at hx3 hge ⊢;obtain⟨u3,hu3⟩:∃ u,u=(v2).alloc (.cells #[.int .i64 0,.int .i64 0,.int .i64 0,.int .i64 0,.int .i64 0] 199):=⟨_,rfl⟩;rw[<- hu3] at hx3 hb3 ⊢;clear hu3 hbx;refine Zal [11] (by kernel_rfl) (fun i hi hS o ho=>?_);simp only[Za6] at hi;subst hi;simp only[Za1] at ho;subst ho;refine⟨rfl,?_⟩;obtain⟨e0,e1,e2,e3,e4,fz⟩:=cells5 hx3;refine Za9 (w':=set5 u3 bx 0 N) rfl (Zaw (k:=0) fz e0 e1 e2 e3 e4 _ _ _ _ _) ?_;have hbf:Below w.heap.size w (set5 u3 bx 0 N):=Zbc hb3 hge N;have hxf:=Zbn hx3 N;refine⟨hbf,?_⟩;simp only[Zah];clear e0 e1 e2 e3 e4 fz;refine Zac 12 rfl rfl (by kernel_rfl) ?_;apply Exists.intro;refine⟨fun w' hw=>?_,?_⟩
   ·
    clear hw;go_simp;rfl
   simp only[Zah];refine Zbk (by kernel_rfl) ?_;obtain rfl:B=true:=HBT.out;have hxf':=hxf;rw[HNR.out] at hxf';have HXF:=Hd hxf';have HBF:=Hd hbf;obtain⟨y0,y1,y2,y3,y4,yz⟩:=cells5 hxf';obtain⟨W3,hW3⟩:∃ W,W=set5 u3 bx 0 N:=⟨_,rfl⟩;rw[<- hW3] at y0 y1 y2 y3 y4 yz HXF HBF ⊢;clear hW3 hxf hxf' hbf HNR HPA HN HBT;go_upto_region 8 with fail;have hxz:=Zae (k:=4) HXF.out (.int .i64 ((r:Int)+1));have hbz:Below w.heap.size w (W3.setCell ⟨bx,4,none⟩ (.int .i64 ((r:Int)+1))):=HBF.out.setCell (p:=⟨bx,4,none⟩) hge _;obtain⟨W4,hW4⟩:∃ W,W=W3.setCell ⟨bx,4,none⟩ (.int .i64 ((r:Int)+1)):=⟨_,rfl⟩;rw[<- hW4] at hxz hbz ⊢;clear hW4 HXF HBF y0 y1 y2 y3 y4 yz;simp at hxz;obtain⟨z0,z1,z2,z3,z4,zz⟩:=cells5 hxz;have hc1:=HC1.out _ hbz;refine Zap (fun w'=>w'=W4.drew) true 5 [(0,false),(1,false),(2,false),(3,false),(4,false),(5,true)] (by kernel_rfl) (by kernel_rfl) rfl ?_;simp only[planned,Zdl]
   iterate 5
    refine Zar rfl ?_;apply Exists.intro;refine⟨fun w' hw=>?_,?_⟩
    ·
     subst hw;go_simp;rfl
    simp only[Zah]
   refine Zdb rfl (fun K hK=>?_);unfold Oper.wp;go_simp;rw[<- HREF.out];refine(HSET.out _ (Zaj hbz 1)).mono ?_;rintro x w5 ⟨rfl,hs5,hc5,hl5⟩;refine hK _ _ (Zbr ?_);have HS5:=Hd hs5;have HC5:=Hd hc5;have HL5:=Hd hl5;clear hs5 hc5 hl5 hxz hbz z0 z1 z2 z3 z4 zz hc1;go_wp2_with fail;refine(HMORE.out _ HS5.out HL5.out HC5.out).mono ?_;rintro x w6 ⟨rfl,hp⟩;have HP:=Hd hp;clear hp;go_wp2_with fail;go_ret;exact HP.out
  ·
   skip
   simp only[Za1] at ho;subst ho;refine⟨rfl,?_⟩;have hb4:=(Zaj HB1.out 1).trans ((Zad (w1.drew) (.cells #[.int .i64 0,.int .i64 0,.int .i64 0,.int .i64 0,.int .i64 0] 199)).mono (Zaj HB1.out 1).size);have hx4:=heap_alloc_new (w1.drew) (.cells #[.int .i64 0,.int .i64 0,.int .i64 0,.int .i64 0,.int .i64 0] 199);have hge:w.heap.size<=(w1.drew).heap.size:=(Zaj HB1.out 1).size;refine Zaz (v:=.pointer (some ⟨(w1.drew).heap.size,0,none⟩)) (w':=(w1.drew).alloc (.cells #[.int .i64 0,.int .i64 0,.int .i64 0,.int .i64 0,.int .i64 0] 199)) (by go_simp) ⟨hb4,?_⟩;simp only[Zah];obtain⟨bx,hbx⟩:∃ bx,bx=(w1.drew).heap.size:=⟨_,rfl⟩;rw[<- hbx] at hx4 hge ⊢;obtain⟨u4,hu4⟩:∃ u,u=(w1.drew).alloc (.cells #[.int .i64 0,.int .i64 0,.int .i64 0,.int .i64 0,.int .i64 0] 199):=⟨_,rfl⟩;rw[<- hu4] at hx4 hb4 ⊢;clear hu4 hbx;refine Zal [6] (by kernel_rfl) (fun i hi hS o ho=>?_);simp only[Za6] at hi;subst hi;simp only[Za1] at ho;subst ho;refine⟨rfl,?_⟩;refine Zat (v:=(.tuple #[Za3 N,.bool B])) (R:=fun w'=>Below (u4).heap.size (u4) w') (by go_simp) (HPA.out _ hb4) ?_;intro v5 hv5;have hb5:=hb4.trans (hv5.mono hb4.size);refine⟨hb5,?_⟩;simp only[Zah];unfold Za3;have hx5:=(hv5.block _ (Array.getElem?_eq_some_iff.1 hx4).1).trans hx4;refine Zac 7 rfl rfl (by kernel_rfl) ?_;apply Exists.intro;refine⟨fun w' hw=>?_,?_⟩
   ·
    clear hw;go_simp;rfl
   simp only[Zah];refine Zac 8 rfl rfl (by kernel_rfl) ?_;apply Exists.intro;refine⟨fun w' hw=>?_,?_⟩
   ·
    clear hw;go_simp;rfl
   simp only[Zah];refine Zac 9 rfl rfl (by kernel_rfl) ?_;apply Exists.intro;refine⟨fun w' hw=>?_,?_⟩
   ·
    clear hw;go_simp;rfl
   simp only[Zah];refine Zal [11] (by kernel_rfl) (fun i hi hS o ho=>?_);simp only[Za6] at hi;subst hi;simp only[Za1] at ho;subst ho;refine⟨rfl,?_⟩;obtain⟨e0,e1,e2,e3,e4,fz⟩:=cells5 hx5;refine Za9 (w':=set5 v5 bx 0 N) rfl (Zaw (k:=0) fz e0 e1 e2 e3 e4 _ _ _ _ _) ?_;have hbf:Below w.heap.size w (set5 v5 bx 0 N):=Zbc hb5 hge N;have hxf:=Zbn hx5 N;refine⟨hbf,?_⟩;simp only[Zah];clear e0 e1 e2 e3 e4 fz;refine Zac 12 rfl rfl (by kernel_rfl) ?_;apply Exists.intro;refine⟨fun w' hw=>?_,?_⟩
   ·
    clear hw;go_simp;rfl
   simp only[Zah];refine Zbk (by kernel_rfl) ?_;obtain rfl:B=true:=HBT.out;have hxf':=hxf;rw[HNR.out] at hxf';have HXF:=Hd hxf';have HBF:=Hd hbf;obtain⟨y0,y1,y2,y3,y4,yz⟩:=cells5 hxf';obtain⟨W3,hW3⟩:∃ W,W=set5 v5 bx 0 N:=⟨_,rfl⟩;rw[<- hW3] at y0 y1 y2 y3 y4 yz HXF HBF ⊢;clear hW3 hxf hxf' hbf HNR HPA HN HBT;go_upto_region 8 with fail;have hxz:=Zae (k:=4) HXF.out (.int .i64 ((r:Int)+1));have hbz:Below w.heap.size w (W3.setCell ⟨bx,4,none⟩ (.int .i64 ((r:Int)+1))):=HBF.out.setCell (p:=⟨bx,4,none⟩) hge _;obtain⟨W4,hW4⟩:∃ W,W=W3.setCell ⟨bx,4,none⟩ (.int .i64 ((r:Int)+1)):=⟨_,rfl⟩;rw[<- hW4] at hxz hbz ⊢;clear hW4 HXF HBF y0 y1 y2 y3 y4 yz;simp at hxz;obtain⟨z0,z1,z2,z3,z4,zz⟩:=cells5 hxz;have hc1:=HC1.out _ hbz;refine Zap (fun w'=>w'=W4.drew) true 5 [(0,false),(1,false),(2,false),(3,false),(4,false),(5,true)] (by kernel_rfl) (by kernel_rfl) rfl ?_;simp only[planned,Zdl]
   iterate 5
    refine Zar rfl ?_;apply Exists.intro;refine⟨fun w' hw=>?_,?_⟩
    ·
     subst hw;go_simp;rfl
    simp only[Zah]
   refine Zdb rfl (fun K hK=>?_);unfold Oper.wp;go_simp;rw[<- HREF.out];refine(HSET.out _ (Zaj hbz 1)).mono ?_;rintro x w5 ⟨rfl,hs5,hc5,hl5⟩;refine hK _ _ (Zbr ?_);have HS5:=Hd hs5;have HC5:=Hd hc5;have HL5:=Hd hl5;clear hs5 hc5 hl5 hxz hbz z0 z1 z2 z3 z4 zz hc1;go_wp2_with fail;refine(HMORE.out _ HS5.out HL5.out HC5.out).mono ?_;rintro x w6 ⟨rfl,hp⟩;have HP:=Hd hp;clear hp;go_wp2_with fail;go_ret;exact HP.out
 ·
  skip
  simp only[Za1] at ho;subst ho;refine⟨rfl,?_⟩;have hb6:=(Zaj HB1.out 1).trans ((Zad (w1.drew) (.cells #[.int .i64 0,.int .i64 0,.int .i64 0,.int .i64 0,.int .i64 0] 199)).mono (Zaj HB1.out 1).size);have hx6:=heap_alloc_new (w1.drew) (.cells #[.int .i64 0,.int .i64 0,.int .i64 0,.int .i64 0,.int .i64 0] 199);have hge:w.heap.size<=(w1.drew).heap.size:=(Zaj HB1.out 1).size;refine Zaz (v:=.pointer (some ⟨(w1.drew).heap.size,0,none⟩)) (w':=(w1.drew).alloc (.cells #[.int .i64 0,.int .i64 0,.int .i64 0,.int .i64 0,.int .i64 0] 199)) (by go_simp) ⟨hb6,?_⟩;simp only[Zah];obtain⟨bx,hbx⟩:∃ bx,bx=(w1.drew).heap.size:=⟨_,rfl⟩;rw[<- hbx] at hx6 hge ⊢;obtain⟨u6,hu6⟩:∃ u,u=(w1.drew).alloc (.cells #[.int .i64 0,.int .i64 0,.int .i64 0,.int .i64 0,.int .i64 0] 199):=⟨_,rfl⟩;rw[<- hu6] at hx6 hb6 ⊢;clear hu6 hbx;refine Zal [5] (by kernel_rfl) (fun i hi hS o ho=>?_);simp only[Za6] at hi;subst hi;simp only[Za1] at ho;subst ho;refine⟨rfl,?_⟩;refine Zat (v:=(.int .i64 k)) (R:=fun w'=>u6=w') (by go_simp) (HN.out _) ?_;rintro w' rfl;refine⟨hb6,?_⟩;simp only[Zah];refine Zal [6] (by kernel_rfl) (fun i hi hS o ho=>?_);simp only[Za6] at hi;subst hi;simp only[Za1] at ho;subst ho;refine⟨rfl,?_⟩;refine Zat (v:=(.tuple #[Za3 N,.bool B])) (R:=fun w'=>Below (u6).heap.size (u6) w') (by go_simp) (HPA.out _ hb6) ?_;intro v8 hv8;have hb8:=hb6.trans (hv8.mono hb6.size);refine⟨hb8,?_⟩;simp only[Zah];unfold Za3;have hx8:=(hv8.block _ (Array.getElem?_eq_some_iff.1 hx6).1).trans hx6;refine Zac 7 rfl rfl (by kernel_rfl) ?_;apply Exists.intro;refine⟨fun w' hw=>?_,?_⟩
  ·
   clear hw;go_simp;rfl
  simp only[Zah];refine Zac 8 rfl rfl (by kernel_rfl) ?_;apply Exists.intro;refine⟨fun w' hw=>?_,?_⟩
  ·
   clear hw;go_simp;rfl
  simp only[Zah];refine Zac 9 rfl rfl (by kernel_rfl) ?_;apply Exists.intro;refine⟨fun w' hw=>?_,?_⟩
  ·
   clear hw;go_simp;rfl
  simp only[Zah];refine Zal [11] (by kernel_rfl) (fun i hi hS o ho=>?_);simp only[Za6] at hi;subst hi;simp only[Za1] at ho;subst ho;refine⟨rfl,?_⟩;obtain⟨e0,e1,e2,e3,e4,fz⟩:=cells5 hx8;refine Za9 (w':=set5 v8 bx 0 N) rfl (Zaw (k:=0) fz e0 e1 e2 e3 e4 _ _ _ _ _) ?_;have hbf:Below w.heap.size w (set5 v8 bx 0 N):=Zbc hb8 hge N;have hxf:=Zbn hx8 N;refine⟨hbf,?_⟩;simp only[Zah];clear e0 e1 e2 e3 e4 fz;refine Zac 12 rfl rfl (by kernel_rfl) ?_;apply Exists.intro;refine⟨fun w' hw=>?_,?_⟩
  ·
   clear hw;go_simp;rfl
  simp only[Zah];refine Zbk (by kernel_rfl) ?_;obtain rfl:B=true:=HBT.out;have hxf':=hxf;rw[HNR.out] at hxf';have HXF:=Hd hxf';have HBF:=Hd hbf;obtain⟨y0,y1,y2,y3,y4,yz⟩:=cells5 hxf';obtain⟨W3,hW3⟩:∃ W,W=set5 v8 bx 0 N:=⟨_,rfl⟩;rw[<- hW3] at y0 y1 y2 y3 y4 yz HXF HBF ⊢;clear hW3 hxf hxf' hbf HNR HPA HN HBT;go_upto_region 8 with fail;have hxz:=Zae (k:=4) HXF.out (.int .i64 ((r:Int)+1));have hbz:Below w.heap.size w (W3.setCell ⟨bx,4,none⟩ (.int .i64 ((r:Int)+1))):=HBF.out.setCell (p:=⟨bx,4,none⟩) hge _;obtain⟨W4,hW4⟩:∃ W,W=W3.setCell ⟨bx,4,none⟩ (.int .i64 ((r:Int)+1)):=⟨_,rfl⟩;rw[<- hW4] at hxz hbz ⊢;clear hW4 HXF HBF y0 y1 y2 y3 y4 yz;simp at hxz;obtain⟨z0,z1,z2,z3,z4,zz⟩:=cells5 hxz;have hc1:=HC1.out _ hbz;refine Zap (fun w'=>w'=W4.drew) true 5 [(0,false),(1,false),(2,false),(3,false),(4,false),(5,true)] (by kernel_rfl) (by kernel_rfl) rfl ?_;simp only[planned,Zdl]
  iterate 5
   refine Zar rfl ?_;apply Exists.intro;refine⟨fun w' hw=>?_,?_⟩
   ·
    subst hw;go_simp;rfl
   simp only[Zah]
  refine Zdb rfl (fun K hK=>?_);unfold Oper.wp;go_simp;rw[<- HREF.out];refine(HSET.out _ (Zaj hbz 1)).mono ?_;rintro x w5 ⟨rfl,hs5,hc5,hl5⟩;refine hK _ _ (Zbr ?_);have HS5:=Hd hs5;have HC5:=Hd hc5;have HL5:=Hd hl5;clear hs5 hc5 hl5 hxz hbz z0 z1 z2 z3 z4 zz hc1;go_wp2_with fail;refine(HMORE.out _ HS5.out HL5.out HC5.out).mono ?_;rintro x w6 ⟨rfl,hp⟩;have HP:=Hd hp;clear hp;go_wp2_with fail;go_ret;exact HP.out
open Go.RowKit
theorem Zk7 {o:Own} {w:World} {sb:Nat} {d:Zag} {s:Za5} (h:Zao o w sb d s) (hlt:Zak o w) (hl:Zcc d (Za2 d)) (f:Nat) (hf:f<eMax) (hx:enode f=0) :
 Calls Tryz.prog 116 #[.pointer (some ⟨sb,0,none⟩),.int .i64 f] w (Zev o w sb d s f (-1)):=by
 obtain⟨c0,c1,c2,c3,c4,f0⟩:=cells5 h.blk;have lsb:sb<w.heap.size:=Zaa c0;have HPOST:Hid (∀ W:World,Below w.heap.size w W->Zev o w sb d s f (-1) (.returned (.int .i64 0)) W):=fun W hb =>
  ⟨d,rfl,h.below hlt hb,hlt.mono hb.size,⟨rfl,rfl,rfl,rfl,rfl,rfl,rfl,rfl,rfl,fun i hi=>by
   have e:f/2=0:=hx;simp[toE,e,Ne.symm hi],hl⟩,Chg.of_below hb _ _⟩
 have hisv:(decide (enode f=0)||d.pool.tk (enode f))=true:=by rw[hx];rfl
 have HIS:Hid (∀ W:World,Below w.heap.size w W->Calls Tryz.prog 146 #[.pointer (some ⟨sb,0,none⟩),.int .i64 f] W fun x w'=>x=.returned (.bool true)/\Below W.heap.size W w'):=fun W hb=>by
  have h1:=Zbj (h.below hlt hb) (hlt.mono hb.size) f hf;rw[hisv] at h1;exact h1
 have htk:d.pool.tk 0=false:=h.pool.zero;have HPA:Hid (∀ W:World,Below w.heap.size w W->Calls Tryz.prog 171 #[.pointer (some ⟨s.pb,0,none⟩),.int .i64 (enode f:Nat)] W fun x w'=>x=.returned (.tuple #[Za3 (d.pool.has (enode f)),.bool (d.pool.tk (enode f))])/\Below W.heap.size W w') :=
  Hd (fun W hb=>Zc4 o s.pb d.pool (enode f) W (h.pool.below hb hlt) (hlt.mono hb.size))
 have HC1:Hid (∀ W:World,Below w.heap.size w W->W.cell? ⟨sb,1,none⟩=some (.pointer (some ⟨s.pb,0,none⟩))):=Hd (fun W hb=>(hb.cell (p:=⟨sb,1,none⟩) lsb).trans c1);have HN:=Hd (fun W=>Zcn f W hf);have htk':d.pool.tk (enode f)=false:=by rw[hx];exact htk
 obtain⟨N,hN⟩:∃ N,N=d.pool.has (enode f):=⟨_,rfl⟩;obtain⟨B,hB⟩:∃ B,B=d.pool.tk (enode f):=⟨_,rfl⟩;obtain⟨k,hk⟩:∃ k,k=enode f:=⟨_,rfl⟩;rw[<- hN,<- hB,<- hk] at HPA;rw[<- hk] at HN;have HB:=Hd (hB.trans htk');clear h hlt hl hf hx hisv c0 c1 c2 c3 c4 f0 lsb htk htk' hN hk hB
 go_enter Tryz.func116,Tryz.ntmps116
 go_wp2_with fail;refine(HIS.out _ (Below.refl _ _)).mono ?_;rintro x w1 ⟨rfl,hb1⟩;have HB1:=Hd hb1;clear hb1;go_upto_region 5 with fail;refine Zbo (fun W:World=>Below w.heap.size w W) 13 (by kernel_rfl) (Zaj HB1.out 1) ?_;refine Zac 0 rfl rfl (by kernel_rfl) ?_;apply Exists.intro;refine⟨fun w' hw=>?_,?_⟩
 ·
  have hc1:=HC1.out w' hw;go_simp;rfl
 simp only[Zah];refine Zac 1 rfl rfl (by kernel_rfl) ?_;apply Exists.intro;refine⟨fun w' hw=>?_,?_⟩
 ·
  have hc1:=HC1.out w' hw;go_simp;rfl
 simp only[Zah];refine Zac 2 rfl rfl (by kernel_rfl) ?_;apply Exists.intro;refine⟨fun w' hw=>?_,?_⟩
 ·
  have hc1:=HC1.out w' hw;go_simp;rfl
 simp only[Zah];refine Zac 3 rfl rfl (by kernel_rfl) ?_;apply Exists.intro;refine⟨fun w' hw=>?_,?_⟩
 ·
  have hc1:=HC1.out w' hw;go_simp;rfl
 simp only[Zah];refine Zac 4 rfl rfl (by kernel_rfl) ?_;apply Exists.intro;refine⟨fun w' hw=>?_,?_⟩
 ·
  have hc1:=HC1.out w' hw;go_simp;rfl
 simp only[Zah];refine Zal [5,10] (by kernel_rfl) (fun i hi hS o ho=>?_);simp only[Za6] at hi;rcases hi with rfl|rfl
 ·
  skip
  simp only[Za1] at ho;subst ho;refine⟨rfl,?_⟩;refine Zat (v:=(.int .i64 k)) (R:=fun w'=>w1.drew=w') (by go_simp) (HN.out _) ?_;rintro w' rfl;refine⟨(Zaj HB1.out 1),?_⟩;simp only[Zah];refine Zal [6,10] (by kernel_rfl) (fun i hi hS o ho=>?_);simp only[Za6] at hi;rcases hi with rfl|rfl
  ·
   skip
   simp only[Za1] at ho;subst ho;refine⟨rfl,?_⟩;refine Zat (v:=(.tuple #[Za3 N,.bool B])) (R:=fun w'=>Below (w1.drew).heap.size (w1.drew) w') (by go_simp) (HPA.out _ (Zaj HB1.out 1)) ?_;intro v2 hv2;have hb2:=(Zaj HB1.out 1).trans (hv2.mono (Zaj HB1.out 1).size);refine⟨hb2,?_⟩;simp only[Zah];unfold Za3;refine Zac 7 rfl rfl (by kernel_rfl) ?_;apply Exists.intro;refine⟨fun w' hw=>?_,?_⟩
   ·
    clear hw;go_simp;rfl
   simp only[Zah];refine Zac 8 rfl rfl (by kernel_rfl) ?_;apply Exists.intro;refine⟨fun w' hw=>?_,?_⟩
   ·
    clear hw;go_simp;rfl
   simp only[Zah];refine Zac 9 rfl rfl (by kernel_rfl) ?_;apply Exists.intro;refine⟨fun w' hw=>?_,?_⟩
   ·
    clear hw;go_simp;rfl
   simp only[Zah];refine Zal [10] (by kernel_rfl) (fun i hi hS o ho=>?_);simp only[Za6] at hi;subst hi;simp only[Za1] at ho;subst ho;refine⟨rfl,?_⟩;have hb3:=hb2.trans ((Zad (v2) (.cells #[.int .i64 0,.int .i64 0,.int .i64 0,.int .i64 0,.int .i64 0] 199)).mono hb2.size);have hx3:=heap_alloc_new (v2) (.cells #[.int .i64 0,.int .i64 0,.int .i64 0,.int .i64 0,.int .i64 0] 199);have hge:w.heap.size<=(v2).heap.size:=hb2.size;refine Zaz (v:=.pointer (some ⟨(v2).heap.size,0,none⟩)) (w':=(v2).alloc (.cells #[.int .i64 0,.int .i64 0,.int .i64 0,.int .i64 0,.int .i64 0] 199)) (by go_simp) ⟨hb3,?_⟩;simp only[Zah];obtain⟨bx,hbx⟩:∃ bx,bx=(v2).heap.size:=⟨_,rfl⟩;rw[<- hbx] at hx3 hge ⊢;obtain⟨u3,hu3⟩:∃ u,u=(v2).alloc (.cells #[.int .i64 0,.int .i64 0,.int .i64 0,.int .i64 0,.int .i64 0] 199):=⟨_,rfl⟩;rw[<- hu3] at hx3 hb3 ⊢;clear hu3 hbx;refine Zal [11] (by kernel_rfl) (fun i hi hS o ho=>?_);simp only[Za6] at hi;subst hi;simp only[Za1] at ho;subst ho;refine⟨rfl,?_⟩;obtain⟨e0,e1,e2,e3,e4,fz⟩:=cells5 hx3;refine Za9 (w':=set5 u3 bx 0 N) rfl (Zaw (k:=0) fz e0 e1 e2 e3 e4 _ _ _ _ _) ?_;have hbf:Below w.heap.size w (set5 u3 bx 0 N):=Zbc hb3 hge N;have hxf:=Zbn hx3 N;refine⟨hbf,?_⟩;simp only[Zah];clear e0 e1 e2 e3 e4 fz;refine Zac 12 rfl rfl (by kernel_rfl) ?_;apply Exists.intro;refine⟨fun w' hw=>?_,?_⟩
   ·
    clear hw;go_simp;rfl
   simp only[Zah];refine Zbk (by kernel_rfl) ?_;obtain rfl:B=false:=HB.out;have HBF:=Hd hbf;obtain⟨W3,hW3⟩:∃ W,W=set5 u3 bx 0 N:=⟨_,rfl⟩;rw[<- hW3] at HBF ⊢;clear hW3 hbf hxf HPA HN HIS HC1 HB1 HB;go_wp2_with fail;go_ret;exact HPOST.out _ HBF.out
  ·
   skip
   simp only[Za1] at ho;subst ho;refine⟨rfl,?_⟩;have hb4:=(Zaj HB1.out 1).trans ((Zad (w1.drew) (.cells #[.int .i64 0,.int .i64 0,.int .i64 0,.int .i64 0,.int .i64 0] 199)).mono (Zaj HB1.out 1).size);have hx4:=heap_alloc_new (w1.drew) (.cells #[.int .i64 0,.int .i64 0,.int .i64 0,.int .i64 0,.int .i64 0] 199);have hge:w.heap.size<=(w1.drew).heap.size:=(Zaj HB1.out 1).size;refine Zaz (v:=.pointer (some ⟨(w1.drew).heap.size,0,none⟩)) (w':=(w1.drew).alloc (.cells #[.int .i64 0,.int .i64 0,.int .i64 0,.int .i64 0,.int .i64 0] 199)) (by go_simp) ⟨hb4,?_⟩;simp only[Zah];obtain⟨bx,hbx⟩:∃ bx,bx=(w1.drew).heap.size:=⟨_,rfl⟩;rw[<- hbx] at hx4 hge ⊢;obtain⟨u4,hu4⟩:∃ u,u=(w1.drew).alloc (.cells #[.int .i64 0,.int .i64 0,.int .i64 0,.int .i64 0,.int .i64 0] 199):=⟨_,rfl⟩;rw[<- hu4] at hx4 hb4 ⊢;clear hu4 hbx;refine Zal [6] (by kernel_rfl) (fun i hi hS o ho=>?_);simp only[Za6] at hi;subst hi;simp only[Za1] at ho;subst ho;refine⟨rfl,?_⟩;refine Zat (v:=(.tuple #[Za3 N,.bool B])) (R:=fun w'=>Below (u4).heap.size (u4) w') (by go_simp) (HPA.out _ hb4) ?_;intro v5 hv5;have hb5:=hb4.trans (hv5.mono hb4.size);refine⟨hb5,?_⟩;simp only[Zah];unfold Za3;have hx5:=(hv5.block _ (Array.getElem?_eq_some_iff.1 hx4).1).trans hx4;refine Zac 7 rfl rfl (by kernel_rfl) ?_;apply Exists.intro;refine⟨fun w' hw=>?_,?_⟩
   ·
    clear hw;go_simp;rfl
   simp only[Zah];refine Zac 8 rfl rfl (by kernel_rfl) ?_;apply Exists.intro;refine⟨fun w' hw=>?_,?_⟩
   ·
    clear hw;go_simp;rfl
   simp only[Zah];refine Zac 9 rfl rfl (by kernel_rfl) ?_;apply Exists.intro;refine⟨fun w' hw=>?_,?_⟩
   ·
    clear hw;go_simp;rfl
   simp only[Zah];refine Zal [11] (by kernel_rfl) (fun i hi hS o ho=>?_);simp only[Za6] at hi;subst hi;simp only[Za1] at ho;subst ho;refine⟨rfl,?_⟩;obtain⟨e0,e1,e2,e3,e4,fz⟩:=cells5 hx5;refine Za9 (w':=set5 v5 bx 0 N) rfl (Zaw (k:=0) fz e0 e1 e2 e3 e4 _ _ _ _ _) ?_;have hbf:Below w.heap.size w (set5 v5 bx 0 N):=Zbc hb5 hge N;have hxf:=Zbn hx5 N;refine⟨hbf,?_⟩;simp only[Zah];clear e0 e1 e2 e3 e4 fz;refine Zac 12 rfl rfl (by kernel_rfl) ?_;apply Exists.intro;refine⟨fun w' hw=>?_,?_⟩
   ·
    clear hw;go_simp;rfl
   simp only[Zah];refine Zbk (by kernel_rfl) ?_;obtain rfl:B=false:=HB.out;have HBF:=Hd hbf;obtain⟨W3,hW3⟩:∃ W,W=set5 v5 bx 0 N:=⟨_,rfl⟩;rw[<- hW3] at HBF ⊢;clear hW3 hbf hxf HPA HN HIS HC1 HB1 HB;go_wp2_with fail;go_ret;exact HPOST.out _ HBF.out
 ·
  skip
  simp only[Za1] at ho;subst ho;refine⟨rfl,?_⟩;have hb6:=(Zaj HB1.out 1).trans ((Zad (w1.drew) (.cells #[.int .i64 0,.int .i64 0,.int .i64 0,.int .i64 0,.int .i64 0] 199)).mono (Zaj HB1.out 1).size);have hx6:=heap_alloc_new (w1.drew) (.cells #[.int .i64 0,.int .i64 0,.int .i64 0,.int .i64 0,.int .i64 0] 199);have hge:w.heap.size<=(w1.drew).heap.size:=(Zaj HB1.out 1).size;refine Zaz (v:=.pointer (some ⟨(w1.drew).heap.size,0,none⟩)) (w':=(w1.drew).alloc (.cells #[.int .i64 0,.int .i64 0,.int .i64 0,.int .i64 0,.int .i64 0] 199)) (by go_simp) ⟨hb6,?_⟩;simp only[Zah];obtain⟨bx,hbx⟩:∃ bx,bx=(w1.drew).heap.size:=⟨_,rfl⟩;rw[<- hbx] at hx6 hge ⊢;obtain⟨u6,hu6⟩:∃ u,u=(w1.drew).alloc (.cells #[.int .i64 0,.int .i64 0,.int .i64 0,.int .i64 0,.int .i64 0] 199):=⟨_,rfl⟩;rw[<- hu6] at hx6 hb6 ⊢;clear hu6 hbx;refine Zal [5] (by kernel_rfl) (fun i hi hS o ho=>?_);simp only[Za6] at hi;subst hi;simp only[Za1] at ho;subst ho;refine⟨rfl,?_⟩;refine Zat (v:=(.int .i64 k)) (R:=fun w'=>u6=w') (by go_simp) (HN.out _) ?_;rintro w' rfl;refine⟨hb6,?_⟩;simp only[Zah];refine Zal [6] (by kernel_rfl) (fun i hi hS o ho=>?_);simp only[Za6] at hi;subst hi;simp only[Za1] at ho;subst ho;refine⟨rfl,?_⟩;refine Zat (v:=(.tuple #[Za3 N,.bool B])) (R:=fun w'=>Below (u6).heap.size (u6) w') (by go_simp) (HPA.out _ hb6) ?_;intro v8 hv8;have hb8:=hb6.trans (hv8.mono hb6.size);refine⟨hb8,?_⟩;simp only[Zah];unfold Za3;have hx8:=(hv8.block _ (Array.getElem?_eq_some_iff.1 hx6).1).trans hx6;refine Zac 7 rfl rfl (by kernel_rfl) ?_;apply Exists.intro;refine⟨fun w' hw=>?_,?_⟩
  ·
   clear hw;go_simp;rfl
  simp only[Zah];refine Zac 8 rfl rfl (by kernel_rfl) ?_;apply Exists.intro;refine⟨fun w' hw=>?_,?_⟩
  ·
   clear hw;go_simp;rfl
  simp only[Zah];refine Zac 9 rfl rfl (by kernel_rfl) ?_;apply Exists.intro;refine⟨fun w' hw=>?_,?_⟩
  ·
   clear hw;go_simp;rfl
  simp only[Zah];refine Zal [11] (by kernel_rfl) (fun i hi hS o ho=>?_);simp only[Za6] at hi;subst hi;simp only[Za1] at ho;subst ho;refine⟨rfl,?_⟩;obtain⟨e0,e1,e2,e3,e4,fz⟩:=cells5 hx8;refine Za9 (w':=set5 v8 bx 0 N) rfl (Zaw (k:=0) fz e0 e1 e2 e3 e4 _ _ _ _ _) ?_;have hbf:Below w.heap.size w (set5 v8 bx 0 N):=Zbc hb8 hge N;have hxf:=Zbn hx8 N;refine⟨hbf,?_⟩;simp only[Zah];clear e0 e1 e2 e3 e4 fz;refine Zac 12 rfl rfl (by kernel_rfl) ?_;apply Exists.intro;refine⟨fun w' hw=>?_,?_⟩
  ·
   clear hw;go_simp;rfl
  simp only[Zah];refine Zbk (by kernel_rfl) ?_;obtain rfl:B=false:=HB.out;have HBF:=Hd hbf;obtain⟨W3,hW3⟩:∃ W,W=set5 v8 bx 0 N:=⟨_,rfl⟩;rw[<- hW3] at HBF ⊢;clear hW3 hbf hxf HPA HN HIS HC1 HB1 HB;go_wp2_with fail;go_ret;exact HPOST.out _ HBF.out
theorem Zk6 {o:Own} {w:World} {sb:Nat} {d:Zag} {s:Za5} (h:Zao o w sb d s) (hlt:Zak o w) (hl:Zcc d (Za2 d)) {rk:Nat->Nat} (ha:Acy (Zab d) rk) (f:Nat) {b:BN} (hx:Zab d (enode f)=some b)
 (htop:∀ y b,Zab d y=some b->Za2 d y<1099511627776) (hpos:1<=Za2 d (enode f)) (hcn:∀ y b,Zab d y=some b->Za0 d y<=2199023255552) :
 Calls Tryz.prog 116 #[.pointer (some ⟨sb,0,none⟩),.int .i64 f] w (Zev o w sb d s f (-1)):=by
 obtain⟨c0,c1,c2,c3,c4,f0⟩:=cells5 h.blk;have lsb:sb<w.heap.size:=Zaa c0;have hok:okE (Zab d) f:=.inr ⟨b,hx⟩;have hf:f<eMax:=by have:=h.edge_lt hok;unfold eMax;omega
 have hns:=Za7 hx;have htl:=h.tk_lt hx;have hrf:(d.pool.nd (enode f)).refs<1099511627776:=by have:=htop _ _ hx;rw[Zci hns.1] at this;omega
 have hid:(d.pool.nd (enode f)).id=enode f:=h.pool.id _ hns.1;have hisv:(decide (enode f=0)||d.pool.tk (enode f))=true:=by rw[hns.1];simp
 have HIS:Hid (∀ W:World,Below w.heap.size w W->Calls Tryz.prog 146 #[.pointer (some ⟨sb,0,none⟩),.int .i64 f] W fun x w'=>x=.returned (.bool true)/\Below W.heap.size W w'):=fun W hb=>by
  have h1:=Zbj (h.below hlt hb) (hlt.mono hb.size) f hf;rw[hisv] at h1;exact h1
 have HPA:Hid (∀ W:World,Below w.heap.size w W->Calls Tryz.prog 171 #[.pointer (some ⟨s.pb,0,none⟩),.int .i64 (enode f:Nat)] W fun x w'=>x=.returned (.tuple #[Za3 (d.pool.has (enode f)),.bool (d.pool.tk (enode f))])/\Below W.heap.size W w') :=
  Hd (fun W hb=>Zc4 o s.pb d.pool (enode f) W (h.pool.below hb hlt) (hlt.mono hb.size))
 have HC1:Hid (∀ W:World,Below w.heap.size w W->W.cell? ⟨sb,1,none⟩=some (.pointer (some ⟨s.pb,0,none⟩))):=Hd (fun W hb=>(hb.cell (p:=⟨sb,1,none⟩) lsb).trans c1);have HN:=Hd (fun W=>Zcn f W hf);obtain⟨r,hr⟩:∃ r,r=(d.pool.nd (enode f)).refs:=⟨_,rfl⟩;have hrp:1<=r:=by rw[Zci hns.1] at hpos;omega
 have HSET:Hid (∀ W:World,Below w.heap.size w W->Calls Tryz.prog 173 #[.pointer (some ⟨s.pb,0,none⟩),Za3 ((d.pool.nd (enode f)).ref (r-1))] W fun x w'=>x=.returned (.int .i64 0)/\Zao o w' sb { d with pool:=d.pool.setNd (enode f) ((d.pool.nd (enode f)).ref (r-1)) } s/\Chg Zas o o w w'/\Zak o w'):=fun W hb=>by
  have hi':d.pool.tk ((d.pool.nd (enode f)).ref (r-1)).id=true:=by show d.pool.tk (d.pool.nd (enode f)).id=true;rw[hid];exact hns.1
  refine(Zhk o s.pb d.pool ((d.pool.nd (enode f)).ref (r-1)) W (h.pool.below hb hlt) (hlt.mono hb.size) hi').mono ?_;rintro e w' ⟨rfl,hp,hc,hl'⟩;have e1:((d.pool.nd (enode f)).ref (r-1)).id=enode f:=hid;rw[e1] at hp;exact⟨rfl,(h.below hlt hb).setPool (hlt.mono hb.size) hp (hc.mono (fun r hr=>by simp[Ze2,hr])),(Chg.of_below hb _ _).trans (hc.mono Zgj),hl'⟩
 have HMORE:Hid (∀ (W:World),Zao o W sb { d with pool:=d.pool.setNd (enode f) ((d.pool.nd (enode f)).ref (r-1)) } s->Zak o W->Chg Zas o o w W ->
  Calls Tryz.prog 174 #[.pointer (some ⟨sb,0,none⟩),.int .i64 f] W fun e w'=>e=.returned (.tuple #[])/\Zev o w sb d s f (-1) (.returned (.int .i64 0)) w'):=fun W hs hl' hch=>by
  have hnd:=Zgk (d:=d) (k:=r-1) htl.2.1 hns.1
  refine(Zft o sb s rk (rk (enode f)+1) W _ (Za2 d) f ⟨hs,hl',by rw[hnd];exact ha,by rw[hnd];exact hok,Zkn htl.2.1 hns.1 hl,fun y q hq=>hcn y q (by rw[hnd] at hq;exact hq),fun y q hq=>(by
   rw[hnd] at hq
   by_cases e:enode f=y
   ·
    subst e;have h1:Za2 d (enode f)=(r:Int):=by rw[Zci hns.1,hr]
    have h2:toE f (enode f)=1:=Ziy f;rw[h1,h2];omega
   ·
    have h1:toE f y=0:=if_neg e;have h2:0<=Za2 d y:=by unfold Za2;split<;>omega
    rw[h1];omega),.inr (Nat.lt_succ_self _)⟩).mono ?_
  rintro e w' ⟨cs,dd,rfl,hs2,hl2,hcl,_,_,hc2⟩;refine⟨rfl,_,rfl,hs2,hl'.mono hc2.size,⟨rfl,rfl,rfl,hnd,rfl,rfl,rfl,by simp[Zag.cd,Zam.setNd],hcl,fun i hi=>?_,hl2.congr (fun y b' hb'=>?_)⟩,hch.trans (hc2.mono Ziv)⟩
  ·
   show Za2 { d with pool:=d.pool.setNd (enode f) ((d.pool.nd (enode f)).ref (r-1)) } i=_
   rw[Zgv htl.2.1 hns.1];dsimp only;unfold toE
   by_cases e:i=enode f
   ·
    have e':f/2=i:=e.symm;rw[if_pos e,if_pos e',e,Zci hns.1,<- hr];omega
   ·
    have e':¬ f/2=i:=fun h'=>e h'.symm
    rw[if_neg e,if_neg e'];omega
  ·
   show Za2 { d with pool:=d.pool.setNd (enode f) ((d.pool.nd (enode f)).ref (r-1)) } y=_
   rw[Zgv htl.2.1 hns.1];dsimp only;unfold addE toE
   by_cases e:y=enode f
   ·
    have e':f/2=y:=e.symm;rw[if_pos e,if_pos e',e,Zci hns.1,<- hr];omega
   ·
    have e':¬ f/2=y:=fun h'=>e h'.symm
    rw[if_neg e,if_neg e'];omega
 have hNn:d.pool.has (enode f)=d.pool.nd (enode f):=hns.2.1;rw[hNn] at HPA;have HREF:Hid (Za3 ((d.pool.nd (enode f)).ref (r-1))=.agg #[.int .i64 (d.pool.nd (enode f)).id,.int .i64 (d.pool.nd (enode f)).v,.int .i64 (d.pool.nd (enode f)).lo,.int .i64 (d.pool.nd (enode f)).hi,.int .i64 ((r:Int)-1)]):=by
  show _=_
  unfold Za3 RN.ref;dsimp only;rw[show ((r-1:Nat):Int)=(r:Int)-1 from by omega]
 rw[hns.1] at HPA;rw[<- hr] at hrf;obtain⟨N,hN⟩:∃ N,N=d.pool.nd (enode f):=⟨_,rfl⟩;have hNr:N.refs=r:=by rw[hN,hr]
 rw[<- hN] at HPA HREF HSET HMORE;obtain⟨B,hB⟩:∃ B,B=true:=⟨_,rfl⟩;rw[<- hB] at HPA;obtain⟨k,hk⟩:∃ k,k=enode f:=⟨_,rfl⟩;rw[<- hk] at HPA HN;have HBT:=Hd hB;have HNR:=Hd hNr;have HW0:=Hd hk;clear h hlt hl ha hx htop hf hns hisv htl hid hr hNn hN hB hk hok c0 c1 c2 c3 c4 f0 lsb hNr hpos hcn
 go_enter Tryz.func116,Tryz.ntmps116
 go_wp2_with fail;refine(HIS.out _ (Below.refl _ _)).mono ?_;rintro x w1 ⟨rfl,hb1⟩;have HB1:=Hd hb1;clear hb1 HIS;go_upto_region 5 with fail;refine Zbo (fun W:World=>Below w.heap.size w W) 13 (by kernel_rfl) (Zaj HB1.out 1) ?_;refine Zac 0 rfl rfl (by kernel_rfl) ?_;apply Exists.intro;refine⟨fun w' hw=>?_,?_⟩
 ·
  have hc1:=HC1.out w' hw;go_simp;rfl
 simp only[Zah];refine Zac 1 rfl rfl (by kernel_rfl) ?_;apply Exists.intro;refine⟨fun w' hw=>?_,?_⟩
 ·
  have hc1:=HC1.out w' hw;go_simp;rfl
 simp only[Zah];refine Zac 2 rfl rfl (by kernel_rfl) ?_;apply Exists.intro;refine⟨fun w' hw=>?_,?_⟩
 ·
  have hc1:=HC1.out w' hw;go_simp;rfl
 simp only[Zah];refine Zac 3 rfl rfl (by kernel_rfl) ?_;apply Exists.intro;refine⟨fun w' hw=>?_,?_⟩
 ·
  have hc1:=HC1.out w' hw;go_simp;rfl
 simp only[Zah];refine Zac 4 rfl rfl (by kernel_rfl) ?_;apply Exists.intro;refine⟨fun w' hw=>?_,?_⟩
 ·
  have hc1:=HC1.out w' hw;go_simp;rfl
 simp only[Zah];refine Zal [5,10] (by kernel_rfl) (fun i hi hS o ho=>?_);simp only[Za6] at hi;rcases hi with rfl|rfl
 ·
  skip
  simp only[Za1] at ho;subst ho;refine⟨rfl,?_⟩;refine Zat (v:=(.int .i64 k)) (R:=fun w'=>w1.drew=w') (by go_simp) (HN.out _) ?_;rintro w' rfl;refine⟨(Zaj HB1.out 1),?_⟩;simp only[Zah];refine Zal [6,10] (by kernel_rfl) (fun i hi hS o ho=>?_);simp only[Za6] at hi;rcases hi with rfl|rfl
  ·
   skip
   simp only[Za1] at ho;subst ho;refine⟨rfl,?_⟩;refine Zat (v:=(.tuple #[Za3 N,.bool B])) (R:=fun w'=>Below (w1.drew).heap.size (w1.drew) w') (by go_simp) (HPA.out _ (Zaj HB1.out 1)) ?_;intro v2 hv2;have hb2:=(Zaj HB1.out 1).trans (hv2.mono (Zaj HB1.out 1).size);refine⟨hb2,?_⟩;simp only[Zah];unfold Za3;refine Zac 7 rfl rfl (by kernel_rfl) ?_;apply Exists.intro;refine⟨fun w' hw=>?_,?_⟩
   ·
    clear hw;go_simp;rfl
   simp only[Zah];refine Zac 8 rfl rfl (by kernel_rfl) ?_;apply Exists.intro;refine⟨fun w' hw=>?_,?_⟩
   ·
    clear hw;go_simp;rfl
   simp only[Zah];refine Zac 9 rfl rfl (by kernel_rfl) ?_;apply Exists.intro;refine⟨fun w' hw=>?_,?_⟩
   ·
    clear hw;go_simp;rfl
   simp only[Zah];refine Zal [10] (by kernel_rfl) (fun i hi hS o ho=>?_);simp only[Za6] at hi;subst hi;simp only[Za1] at ho;subst ho;refine⟨rfl,?_⟩;have hb3:=hb2.trans ((Zad (v2) (.cells #[.int .i64 0,.int .i64 0,.int .i64 0,.int .i64 0,.int .i64 0] 199)).mono hb2.size);have hx3:=heap_alloc_new (v2) (.cells #[.int .i64 0,.int .i64 0,.int .i64 0,.int .i64 0,.int .i64 0] 199);have hge:w.heap.size<=(v2).heap.size:=hb2.size;refine Zaz (v:=.pointer (some ⟨(v2).heap.size,0,none⟩)) (w':=(v2).alloc (.cells #[.int .i64 0,.int .i64 0,.int .i64 0,.int .i64 0,.int .i64 0] 199)) (by go_simp) ⟨hb3,?_⟩;simp only[Zah];obtain⟨bx,hbx⟩:∃ bx,bx=(v2).heap.size:=⟨_,rfl⟩;rw[<- hbx] at hx3 hge ⊢;obtain⟨u3,hu3⟩:∃ u,u=(v2).alloc (.cells #[.int .i64 0,.int .i64 0,.int .i64 0,.int .i64 0,.int .i64 0] 199):=⟨_,rfl⟩;rw[<- hu3] at hx3 hb3 ⊢;clear hu3 hbx;refine Zal [11] (by kernel_rfl) (fun i hi hS o ho=>?_);simp only[Za6] at hi;subst hi;simp only[Za1] at ho;subst ho;refine⟨rfl,?_⟩;obtain⟨e0,e1,e2,e3,e4,fz⟩:=cells5 hx3;refine Za9 (w':=set5 u3 bx 0 N) rfl (Zaw (k:=0) fz e0 e1 e2 e3 e4 _ _ _ _ _) ?_;have hbf:Below w.heap.size w (set5 u3 bx 0 N):=Zbc hb3 hge N;have hxf:=Zbn hx3 N;refine⟨hbf,?_⟩;simp only[Zah];clear e0 e1 e2 e3 e4 fz;refine Zac 12 rfl rfl (by kernel_rfl) ?_;apply Exists.intro;refine⟨fun w' hw=>?_,?_⟩
   ·
    clear hw;go_simp;rfl
   simp only[Zah];refine Zbk (by kernel_rfl) ?_;obtain rfl:B=true:=HBT.out;have hxf':=hxf;rw[HNR.out] at hxf';have HXF:=Hd hxf';have HBF:=Hd hbf;obtain⟨y0,y1,y2,y3,y4,yz⟩:=cells5 hxf';obtain⟨W3,hW3⟩:∃ W,W=set5 u3 bx 0 N:=⟨_,rfl⟩;rw[<- hW3] at y0 y1 y2 y3 y4 yz HXF HBF ⊢;clear hW3 hxf hxf' hbf HNR HPA HN HBT;go_upto_region 11 with fail;have hxz:=Zae (k:=4) HXF.out (.int .i64 ((r:Int)-1));have hbz:Below w.heap.size w (W3.setCell ⟨bx,4,none⟩ (.int .i64 ((r:Int)-1))):=HBF.out.setCell (p:=⟨bx,4,none⟩) hge _;obtain⟨W4,hW4⟩:∃ W,W=W3.setCell ⟨bx,4,none⟩ (.int .i64 ((r:Int)-1)):=⟨_,rfl⟩;rw[<- hW4] at hxz hbz ⊢;clear hW4 HXF HBF y0 y1 y2 y3 y4 yz;simp at hxz;obtain⟨z0,z1,z2,z3,z4,zz⟩:=cells5 hxz;have hc1:=HC1.out _ hbz;refine Zap (fun w'=>w'=W4.drew) true 5 [(0,false),(1,false),(2,false),(3,false),(4,false),(5,true)] (by kernel_rfl) (by kernel_rfl) rfl ?_;simp only[planned,Zdl]
   iterate 5
    refine Zar rfl ?_;apply Exists.intro;refine⟨fun w' hw=>?_,?_⟩
    ·
     subst hw;go_simp;rfl
    simp only[Zah]
   refine Zdb rfl (fun K hK=>?_);unfold Oper.wp;go_simp;rw[<- HREF.out];refine(HSET.out _ (Zaj hbz 1)).mono ?_;rintro x w5 ⟨rfl,hs5,hc5,hl5⟩;refine hK _ _ (Zbr ?_);have HS5:=Hd hs5;have HC5:=Hd hc5;have HL5:=Hd hl5;clear hs5 hc5 hl5 hxz hbz z0 z1 z2 z3 z4 zz hc1;go_wp2_with fail;refine(HMORE.out _ HS5.out HL5.out HC5.out).mono ?_;rintro x w6 ⟨rfl,hp⟩;have HP:=Hd hp;clear hp;go_wp2_with fail;go_ret;exact HP.out
  ·
   skip
   simp only[Za1] at ho;subst ho;refine⟨rfl,?_⟩;have hb4:=(Zaj HB1.out 1).trans ((Zad (w1.drew) (.cells #[.int .i64 0,.int .i64 0,.int .i64 0,.int .i64 0,.int .i64 0] 199)).mono (Zaj HB1.out 1).size);have hx4:=heap_alloc_new (w1.drew) (.cells #[.int .i64 0,.int .i64 0,.int .i64 0,.int .i64 0,.int .i64 0] 199);have hge:w.heap.size<=(w1.drew).heap.size:=(Zaj HB1.out 1).size;refine Zaz (v:=.pointer (some ⟨(w1.drew).heap.size,0,none⟩)) (w':=(w1.drew).alloc (.cells #[.int .i64 0,.int .i64 0,.int .i64 0,.int .i64 0,.int .i64 0] 199)) (by go_simp) ⟨hb4,?_⟩;simp only[Zah];obtain⟨bx,hbx⟩:∃ bx,bx=(w1.drew).heap.size:=⟨_,rfl⟩;rw[<- hbx] at hx4 hge ⊢;obtain⟨u4,hu4⟩:∃ u,u=(w1.drew).alloc (.cells #[.int .i64 0,.int .i64 0,.int .i64 0,.int .i64 0,.int .i64 0] 199):=⟨_,rfl⟩;rw[<- hu4] at hx4 hb4 ⊢;clear hu4 hbx;refine Zal [6] (by kernel_rfl) (fun i hi hS o ho=>?_);simp only[Za6] at hi;subst hi;simp only[Za1] at ho;subst ho;refine⟨rfl,?_⟩;refine Zat (v:=(.tuple #[Za3 N,.bool B])) (R:=fun w'=>Below (u4).heap.size (u4) w') (by go_simp) (HPA.out _ hb4) ?_;intro v5 hv5;have hb5:=hb4.trans (hv5.mono hb4.size);refine⟨hb5,?_⟩;simp only[Zah];unfold Za3;have hx5:=(hv5.block _ (Array.getElem?_eq_some_iff.1 hx4).1).trans hx4;refine Zac 7 rfl rfl (by kernel_rfl) ?_;apply Exists.intro;refine⟨fun w' hw=>?_,?_⟩
   ·
    clear hw;go_simp;rfl
   simp only[Zah];refine Zac 8 rfl rfl (by kernel_rfl) ?_;apply Exists.intro;refine⟨fun w' hw=>?_,?_⟩
   ·
    clear hw;go_simp;rfl
   simp only[Zah];refine Zac 9 rfl rfl (by kernel_rfl) ?_;apply Exists.intro;refine⟨fun w' hw=>?_,?_⟩
   ·
    clear hw;go_simp;rfl
   simp only[Zah];refine Zal [11] (by kernel_rfl) (fun i hi hS o ho=>?_);simp only[Za6] at hi;subst hi;simp only[Za1] at ho;subst ho;refine⟨rfl,?_⟩;obtain⟨e0,e1,e2,e3,e4,fz⟩:=cells5 hx5;refine Za9 (w':=set5 v5 bx 0 N) rfl (Zaw (k:=0) fz e0 e1 e2 e3 e4 _ _ _ _ _) ?_;have hbf:Below w.heap.size w (set5 v5 bx 0 N):=Zbc hb5 hge N;have hxf:=Zbn hx5 N;refine⟨hbf,?_⟩;simp only[Zah];clear e0 e1 e2 e3 e4 fz;refine Zac 12 rfl rfl (by kernel_rfl) ?_;apply Exists.intro;refine⟨fun w' hw=>?_,?_⟩
   ·
    clear hw;go_simp;rfl
   simp only[Zah];refine Zbk (by kernel_rfl) ?_;obtain rfl:B=true:=HBT.out;have hxf':=hxf;rw[HNR.out] at hxf';have HXF:=Hd hxf';have HBF:=Hd hbf;obtain⟨y0,y1,y2,y3,y4,yz⟩:=cells5 hxf';obtain⟨W3,hW3⟩:∃ W,W=set5 v5 bx 0 N:=⟨_,rfl⟩;rw[<- hW3] at y0 y1 y2 y3 y4 yz HXF HBF ⊢;clear hW3 hxf hxf' hbf HNR HPA HN HBT;go_upto_region 11 with fail;have hxz:=Zae (k:=4) HXF.out (.int .i64 ((r:Int)-1));have hbz:Below w.heap.size w (W3.setCell ⟨bx,4,none⟩ (.int .i64 ((r:Int)-1))):=HBF.out.setCell (p:=⟨bx,4,none⟩) hge _;obtain⟨W4,hW4⟩:∃ W,W=W3.setCell ⟨bx,4,none⟩ (.int .i64 ((r:Int)-1)):=⟨_,rfl⟩;rw[<- hW4] at hxz hbz ⊢;clear hW4 HXF HBF y0 y1 y2 y3 y4 yz;simp at hxz;obtain⟨z0,z1,z2,z3,z4,zz⟩:=cells5 hxz;have hc1:=HC1.out _ hbz;refine Zap (fun w'=>w'=W4.drew) true 5 [(0,false),(1,false),(2,false),(3,false),(4,false),(5,true)] (by kernel_rfl) (by kernel_rfl) rfl ?_;simp only[planned,Zdl]
   iterate 5
    refine Zar rfl ?_;apply Exists.intro;refine⟨fun w' hw=>?_,?_⟩
    ·
     subst hw;go_simp;rfl
    simp only[Zah]
   refine Zdb rfl (fun K hK=>?_);unfold Oper.wp;go_simp;rw[<- HREF.out];refine(HSET.out _ (Zaj hbz 1)).mono ?_;rintro x w5 ⟨rfl,hs5,hc5,hl5⟩;refine hK _ _ (Zbr ?_);have HS5:=Hd hs5;have HC5:=Hd hc5;have HL5:=Hd hl5;clear hs5 hc5 hl5 hxz hbz z0 z1 z2 z3 z4 zz hc1;go_wp2_with fail;refine(HMORE.out _ HS5.out HL5.out HC5.out).mono ?_;rintro x w6 ⟨rfl,hp⟩;have HP:=Hd hp;clear hp;go_wp2_with fail;go_ret;exact HP.out
 ·
  skip
  simp only[Za1] at ho;subst ho;refine⟨rfl,?_⟩;have hb6:=(Zaj HB1.out 1).trans ((Zad (w1.drew) (.cells #[.int .i64 0,.int .i64 0,.int .i64 0,.int .i64 0,.int .i64 0] 199)).mono (Zaj HB1.out 1).size);have hx6:=heap_alloc_new (w1.drew) (.cells #[.int .i64 0,.int .i64 0,.int .i64 0,.int .i64 0,.int .i64 0] 199);have hge:w.heap.size<=(w1.drew).heap.size:=(Zaj HB1.out 1).size;refine Zaz (v:=.pointer (some ⟨(w1.drew).heap.size,0,none⟩)) (w':=(w1.drew).alloc (.cells #[.int .i64 0,.int .i64 0,.int .i64 0,.int .i64 0,.int .i64 0] 199)) (by go_simp) ⟨hb6,?_⟩;simp only[Zah];obtain⟨bx,hbx⟩:∃ bx,bx=(w1.drew).heap.size:=⟨_,rfl⟩;rw[<- hbx] at hx6 hge ⊢;obtain⟨u6,hu6⟩:∃ u,u=(w1.drew).alloc (.cells #[.int .i64 0,.int .i64 0,.int .i64 0,.int .i64 0,.int .i64 0] 199):=⟨_,rfl⟩;rw[<- hu6] at hx6 hb6 ⊢;clear hu6 hbx;refine Zal [5] (by kernel_rfl) (fun i hi hS o ho=>?_);simp only[Za6] at hi;subst hi;simp only[Za1] at ho;subst ho;refine⟨rfl,?_⟩;refine Zat (v:=(.int .i64 k)) (R:=fun w'=>u6=w') (by go_simp) (HN.out _) ?_;rintro w' rfl;refine⟨hb6,?_⟩;simp only[Zah];refine Zal [6] (by kernel_rfl) (fun i hi hS o ho=>?_);simp only[Za6] at hi;subst hi;simp only[Za1] at ho;subst ho;refine⟨rfl,?_⟩;refine Zat (v:=(.tuple #[Za3 N,.bool B])) (R:=fun w'=>Below (u6).heap.size (u6) w') (by go_simp) (HPA.out _ hb6) ?_;intro v8 hv8;have hb8:=hb6.trans (hv8.mono hb6.size);refine⟨hb8,?_⟩;simp only[Zah];unfold Za3;have hx8:=(hv8.block _ (Array.getElem?_eq_some_iff.1 hx6).1).trans hx6;refine Zac 7 rfl rfl (by kernel_rfl) ?_;apply Exists.intro;refine⟨fun w' hw=>?_,?_⟩
  ·
   clear hw;go_simp;rfl
  simp only[Zah];refine Zac 8 rfl rfl (by kernel_rfl) ?_;apply Exists.intro;refine⟨fun w' hw=>?_,?_⟩
  ·
   clear hw;go_simp;rfl
  simp only[Zah];refine Zac 9 rfl rfl (by kernel_rfl) ?_;apply Exists.intro;refine⟨fun w' hw=>?_,?_⟩
  ·
   clear hw;go_simp;rfl
  simp only[Zah];refine Zal [11] (by kernel_rfl) (fun i hi hS o ho=>?_);simp only[Za6] at hi;subst hi;simp only[Za1] at ho;subst ho;refine⟨rfl,?_⟩;obtain⟨e0,e1,e2,e3,e4,fz⟩:=cells5 hx8;refine Za9 (w':=set5 v8 bx 0 N) rfl (Zaw (k:=0) fz e0 e1 e2 e3 e4 _ _ _ _ _) ?_;have hbf:Below w.heap.size w (set5 v8 bx 0 N):=Zbc hb8 hge N;have hxf:=Zbn hx8 N;refine⟨hbf,?_⟩;simp only[Zah];clear e0 e1 e2 e3 e4 fz;refine Zac 12 rfl rfl (by kernel_rfl) ?_;apply Exists.intro;refine⟨fun w' hw=>?_,?_⟩
  ·
   clear hw;go_simp;rfl
  simp only[Zah];refine Zbk (by kernel_rfl) ?_;obtain rfl:B=true:=HBT.out;have hxf':=hxf;rw[HNR.out] at hxf';have HXF:=Hd hxf';have HBF:=Hd hbf;obtain⟨y0,y1,y2,y3,y4,yz⟩:=cells5 hxf';obtain⟨W3,hW3⟩:∃ W,W=set5 v8 bx 0 N:=⟨_,rfl⟩;rw[<- hW3] at y0 y1 y2 y3 y4 yz HXF HBF ⊢;clear hW3 hxf hxf' hbf HNR HPA HN HBT;go_upto_region 11 with fail;have hxz:=Zae (k:=4) HXF.out (.int .i64 ((r:Int)-1));have hbz:Below w.heap.size w (W3.setCell ⟨bx,4,none⟩ (.int .i64 ((r:Int)-1))):=HBF.out.setCell (p:=⟨bx,4,none⟩) hge _;obtain⟨W4,hW4⟩:∃ W,W=W3.setCell ⟨bx,4,none⟩ (.int .i64 ((r:Int)-1)):=⟨_,rfl⟩;rw[<- hW4] at hxz hbz ⊢;clear hW4 HXF HBF y0 y1 y2 y3 y4 yz;simp at hxz;obtain⟨z0,z1,z2,z3,z4,zz⟩:=cells5 hxz;have hc1:=HC1.out _ hbz;refine Zap (fun w'=>w'=W4.drew) true 5 [(0,false),(1,false),(2,false),(3,false),(4,false),(5,true)] (by kernel_rfl) (by kernel_rfl) rfl ?_;simp only[planned,Zdl]
  iterate 5
   refine Zar rfl ?_;apply Exists.intro;refine⟨fun w' hw=>?_,?_⟩
   ·
    subst hw;go_simp;rfl
   simp only[Zah]
  refine Zdb rfl (fun K hK=>?_);unfold Oper.wp;go_simp;rw[<- HREF.out];refine(HSET.out _ (Zaj hbz 1)).mono ?_;rintro x w5 ⟨rfl,hs5,hc5,hl5⟩;refine hK _ _ (Zbr ?_);have HS5:=Hd hs5;have HC5:=Hd hc5;have HL5:=Hd hl5;clear hs5 hc5 hl5 hxz hbz z0 z1 z2 z3 z4 zz hc1;go_wp2_with fail;refine(HMORE.out _ HS5.out HL5.out HC5.out).mono ?_;rintro x w6 ⟨rfl,hp⟩;have HP:=Hd hp;clear hp;go_wp2_with fail;go_ret;exact HP.out
open Go.RowKit
structure Zs9 (p p':Zam) (id:Nat) (n:RN):Prop where
 get:∀ i,p'.get i=if i=id then some { n with id:=id } else p.get i
 none:p.tk id=false
 pos:0<id
 lt:id<p'.at_.length
 le:p.at_.length<=p'.at_.length
 many:p'.many=p.many+1
 room:p'.room=p.room
theorem Zos (o:Own) (pb:Nat) (p:Zam) (n:RN) (w:World) (h:Zau o w pb p) (hlt:Zak o w) :
 Calls Tryz.prog 225 #[.pointer (some ⟨pb,0,none⟩),Za3 n] w fun x w'=>(p.many=p.room/\x=.returned (.tuple #[.int .i64 0,.int .i64 7])/\Below w.heap.size w w') \/
  (∃ id p' o',x=.returned (.tuple #[.int .i64 (id:Nat),.int .i64 0])/\Zau o' w' pb p'/\Zs9 p p' id n/\Chg Ze2 o o' w w'/\Zak o' w'):=by
 rcases List.eq_nil_or_concat p.free with hf|⟨fs,id,hf⟩
 ·
  by_cases hr:p.at_.length<=p.room
  ·
   refine(Zk3 o pb p n w h hlt hf hr).mono ?_;rintro e w' ⟨rfl,o',h1,h2,h3⟩;refine .inr ⟨_,_,o',rfl,h1,⟨fun i=>Zam.fresh_get h.len i,?_,h.pos,by simp[Zam.fresh],by simp[Zam.fresh],rfl,rfl⟩,h2,h3⟩;simp[Zam.tk,List.getD,List.getElem?_eq_none (Nat.le_of_eq h.len)]
  ·
   refine(Zms o pb p n w h hf (by omega)).mono ?_;rintro e w' ⟨rfl,hb⟩;refine .inl ⟨?_,rfl,hb⟩;have h1:=h.many;have h2:=h.top;rw[hf] at h1;simp at h1;omega
 ·
  rw[List.concat_eq_append] at hf;have hm:=h.free id (by rw[hf];simp);refine(Zk4 o pb p n fs id w h hlt hf).mono ?_;rintro e w' ⟨rfl,h1,h2,h3⟩;exact .inr ⟨id,_,o,rfl,h1,⟨fun i=>Zam.reuse_get hm.2.1 (by rw[h.len];exact hm.2.1) i,hm.2.2,hm.1,by simp[Zam.reuse];exact hm.2.1,by simp[Zam.reuse],rfl,rfl⟩,h2,h3⟩
structure Zjs (d d':Zag) (id v lo hi:Nat):Prop where
 vars:d'.vars=d.vars
 level:d'.level=d.level
 tab:d'.tab=fun u=>if u=v then putF (d.tab v) (lo,hi) (some id) else d.tab u
 nodes:Zab d'=addN (Zab d) id ⟨v,lo,hi⟩
 none:Zab d id=none
 pos:0<id
 many:d'.pool.many=d.pool.many+1
 room:d'.pool.room=d.pool.room
 ext:Za2 d'=fun i=>if i=id then 0 else Za2 d i
 live:Zcc d' (Za2 d')
 clen:d'.counts.length<=1048578
 cnt:Za0 d'=setC (Za0 d) id 0
def Zyj (o:Own) (w:World) (sb:Nat) (d:Zag) (v lo hi:Nat) (e:Ending) (w':World):Prop :=
 (d.pool.many=d.pool.room/\e=.returned (.tuple #[.int .i64 0,.int .i64 7])/\Below w.heap.size w w') \/
 (∃ id d' o',e=.returned (.tuple #[.int .i64 (id:Nat),.int .i64 0])/\Zax o' w' sb d'/\Zak o' w'/\Zjs d d' id v lo hi/\Chg Zas o o' w w')
theorem Ztu {k k':Nat} {N:Nat->Option BN} {c:Nat->Nat} {id:Nat} {b:BN} (hlt:∀ i b,N i=some b->i<k) (hk:k<=k') (hf:N id=none) (hid:id<k'):Zeb k' (addN N id b) (setC c id 0)=Zeb k N c+1:=by
 unfold Zeb;rw[Zdr (f:=dead1 N c) (j:=id) (fun i hi=>?_) k' hid]
 ·
  rw[Zo2 (k:=k) (fun i hi=>?_) hk]
  ·
   simp[dead1,hf,Zby,setC]
  ·
   unfold dead1;cases e:N i with
   | none=>rfl
   | some b'=>exact absurd (hlt i b' e) (by omega)
 ·
  unfold dead1;rw[Za8 _ hi];simp only[setC,if_neg hi]
section
variable {o o':Own} {w w':World} {sb:Nat} {d:Zag} {s:Za5}
theorem Zao.setVc (h:Zao o w sb d s) (hlt:Zak o w) {v:Value} {cs:List Nat} (hr:RowR o' w' .counts 3 1 v cs.length (cs.map nat64)) (hc:Chg (· = .counts) o o' w w'):Zao o' (w'.setCell ⟨sb,3,none⟩ v) sb (d.cd cs d.dead) { s with vc:=v }:=by
 have hob:=hc.ext _ _ h.own;have ne:∀ {b r},o' b=some r->r ≠ .store->b≠sb:=fun hb hr e=>by subst e;rw[hob] at hb;cases hb;exact hr rfl
 have k1:∀ {b r},o' b=some r->r ≠ .store->(w'.setCell ⟨sb,3,none⟩ v).heap[b]?=w'.heap[b]?:=fun hb hr=>Zaf (ne hb hr) _
 refine⟨hob,hc.ext _ _ h.ownl,Zae (k:=3) ((hc.same hlt h.own (by simp)).trans h.blk) _,(k1 (hc.ext _ _ h.ownl) (by simp)).trans ((hc.same hlt h.ownl (by simp)).trans h.lev),
  (h.vars.chg hc hlt (by simp)).keep (fun g hg=>k1 hg (by simp)) (fun _ h=>h),(h.level.chg hc hlt (by simp)).keep (fun g hg=>k1 hg (by simp)) (fun _ h=>h),
  (h.pool.chg hc hlt (by simp) (by simp) (by simp) (by simp)).keep (fun g r hg hr=>k1 hg (by rcases hr with rfl|rfl|rfl|rfl<;>simp)) (fun _ _ h=>h),
  (h.tabs.chg hc hlt (by simp)).keep (fun g hg=>k1 hg (by simp)) (fun _ h=>h),
  fun u hu=>((h.tab u hu).chg hc hlt (by simp) (by simp)).keep (fun g r hg hr=>k1 hg (by rcases hr with rfl|rfl<;>simp)) (fun _ _ h=>h),
  hr.keep (fun g hg=>k1 hg (by simp)) (fun _ h=>h),h.len,h.tlen⟩
end
theorem Zao.tabAt {o:Own} {w:World} {sb:Nat} {d:Zag} {s:Za5} (h:Zao o w sb d s) {v:Nat} (hv:v<d.vars.length):∃ gt cap,s.vt=.slice (some ⟨gt,0,none⟩) s.ts.length cap/\w.cell? ⟨gt,v,none⟩=some (.pointer (some ⟨s.ts.getD v 0,0,none⟩))/\v<s.ts.length/\s.ts.length<=9223372036854775807:=by
 have hvl:v<s.ts.length:=by rw[h.tlen];exact hv
 obtain⟨gt,cap,hvt,_,h1,h2⟩:=h.tabs.shape (by omega);have hr:=h.tabs;rw[hvt] at hr;refine⟨gt,cap,hvt,?_,hvl,by unfold maxLen at h2;omega⟩;rw[hr.cell v (by simpa using hvl),List.getElem?_map,List.getElem?_eq_getElem hvl];simp[ptrV,List.getD,hvl]
structure AddS (o:Own) (w:World) (sb:Nat) (d:Zag) (ts:List Nat) (vt:Value) (o1:Own) (wx:World):Prop where
 st:∃ s,Zao o1 wx sb d s/\s.ts=ts/\s.vt=vt
 lt:Zak o1 wx
 chg:Chg Zas o o1 w wx
theorem Zuf:(Tryz.prog.info? 3).map (fun i=>(i.zero,i.size,i.bytes))=some (some (.int .i64 0),1,8):=by kernel_rfl
def padC (cs:List Nat) (j:Nat):List Nat:=cs++List.replicate j 0
theorem Zu7 (cs:List Nat) (j:Nat):padC cs (j+1)=padC cs j++[0]:=by unfold padC;rw[List.replicate_succ',List.append_assoc]
theorem Zh8 (cs:List Nat) (j:Nat):(padC cs j).length=cs.length+j:=by simp[padC]
theorem Zw9 (cs:List Nat) (j i:Nat):(padC cs j).getD i 0=cs.getD i 0:=by
 unfold padC;simp only[List.getD,List.getElem?_append];split
 ·
  rfl
 ·
  rename_i h
  rw[List.getElem?_eq_none (l:=cs) (by omega),List.getElem?_replicate];split<;>rfl
def Zag.added (d:Zag) (p':Zam) (cs:List Nat) (id v lo hi:Nat):Zag:=⟨d.vars,d.level,p',fun u=>if u=v then putF (d.tab v) (lo,hi) (some id) else d.tab u,cs.set id 0,d.dead+1⟩
theorem Zte {d:Zag} {p':Zam} {id v lo hi j:Nat} (hl:Zcc d (Za2 d)) (hok:∀ i b,Zab d i=some b->okE (Zab d) b.lo/\okE (Zab d) b.hi) (hr:Zs9 d.pool p' id ⟨0,v,lo,hi,0⟩)
 (hid:id<(padC d.counts j).length) (hcl:(padC d.counts j).length<=1048578):Zjs d (d.added p' (padC d.counts j) id v lo hi) id v lo hi:=by
 have hnone:Zab d id=none:=by unfold Zab Zam.get;rw[if_neg (by rw[hr.none];simp)];rfl
 have hnodes:Zab (d.added p' (padC d.counts j) id v lo hi)=addN (Zab d) id ⟨v,lo,hi⟩:=by
  funext i;unfold Zab Zag.added;dsimp only;rw[hr.get]
  by_cases e:i=id
  ·
   subst e;rw[if_pos rfl,Zby];rfl
  ·
   rw[if_neg e,Za8 _ e]
 have htk:∀ i,p'.tk i=if i=id then true else d.pool.tk i:=fun i=>by
  have h1:=hr.get i;unfold Zam.get at h1
  by_cases e:i=id
  ·
   rw[if_pos e] at h1 ⊢;split at h1
   ·
    assumption
   ·
    cases h1
  ·
   rw[if_neg e] at h1 ⊢
   by_cases h2:p'.tk i=true<;>by_cases h3:d.pool.tk i=true<;>simp[h2,h3] at h1 ⊢
 have hext:Za2 (d.added p' (padC d.counts j) id v lo hi)=fun i=>if i=id then 0 else Za2 d i:=by
  funext i;unfold Za2;have h1:=hr.get i
  show (if p'.tk i=true then ((p'.nd i).refs:Int) else 0)=_
  rw[htk];unfold Zam.get at h1;rw[htk] at h1
  by_cases e:i=id
  ·
   rw[if_pos e] at h1;simp only[e,if_true] at h1 ⊢;have h2:=Option.some.inj h1;rw[h2];rfl
  ·
   rw[if_neg e] at h1;simp only[if_neg e] at h1 ⊢
   by_cases h3:d.pool.tk i=true
   ·
    rw[if_pos h3,if_pos h3] at h1;rw[if_pos h3,if_pos h3,Option.some.inj h1]
   ·
    rw[if_neg h3,if_neg h3]
 have hcnt:Za0 (d.added p' (padC d.counts j) id v lo hi)=setC (Za0 d) id 0:=by
  funext i;unfold Za0 setC Zag.added;dsimp only
  by_cases e:i=id
  ·
   subst e;rw[if_pos rfl];simp[List.getD,hid]
  ·
   rw[if_neg e,<- Zw9 d.counts j i];simp only[List.getD,List.getElem?_set,if_neg (Ne.symm e)]
 have hn0:id≠0:=by have:=hr.pos;omega
 refine⟨rfl,rfl,rfl,hnodes,hnone,hr.pos,hr.many,hr.room,hext,⟨?_,?_,fun i b hb=>?_⟩,by simpa [Zag.added] using hcl,hcnt⟩
 ·
  rw[hnodes,hcnt,hext]
  show Cnt p'.at_.length _ _ _
  refine Cnt.add (hl.cnt.weaken hr.le) hnone (fun i bi hb=>?_) hr.lt;have h1:=hok i bi hb;constructor
  ·
   rcases h1.1 with h2|⟨c,h2⟩
   ·
    omega
   ·
    intro e;rw[e,hnone] at h2;cases h2
  ·
   rcases h1.2 with h2|⟨c,h2⟩
   ·
    omega
   ·
    intro e;rw[e,hnone] at h2;cases h2
 ·
  rw[hnodes,hcnt]
  show ((d.dead+1:Nat):Int)=Zeb p'.at_.length _ _
  rw[Ztu hl.cnt.lt hr.le hnone hr.lt,<- hl.dead];omega
 ·
  rw[hnodes] at hb
  show i<((padC d.counts j).set id 0).length
  rw[List.length_set]
  by_cases e:i=id
  ·
   subst e;exact hid
  ·
   rw[Za8 _ e] at hb;have:=hl.has i b hb;rw[Zh8];omega
theorem Zjd {o:Own} {w:World} {sb:Nat} {d:Zag} {s:Za5} (h:Zao o w sb d s) (hlt:Zak o w) (hl:Zcc d (Za2 d)) (hok:∀ i b,Zab d i=some b->okE (Zab d) b.lo/\okE (Zab d) b.hi)
 (v lo hi:Nat) (hv:v<d.vars.length) (ht:d.tab v (lo,hi)=none) (hcl:d.counts.length<=1048578) :
 Calls Tryz.prog 205 #[.pointer (some ⟨sb,0,none⟩),.int .i64 v,.int .i64 lo,.int .i64 hi] w (Zyj o w sb d v lo hi):=by
 obtain⟨c0,c1,c2,c3,c4,f0⟩:=cells5 h.blk;have HTAKE:=Hd (Zos o s.pb d.pool ⟨0,v,lo,hi,0⟩ w h.pool hlt);have HRN:Hid (Za3 ⟨0,v,lo,hi,0⟩=.agg #[.int .i64 0,.int .i64 v,.int .i64 lo,.int .i64 hi,.int .i64 0]):=rfl;have HH:=Hd h;have HLT:=Hd hlt;have HREL:=Hd (fun p' id j hr h1 h2=>Zte (p':=p') (id:=id) (v:=v) (lo:=lo) (hi:=hi) (j:=j) hl hok hr h1 h2);have HREL2:Hid (d.dead<=1048577):=by
  show _<=_
  have h1:=hl.dead;have h2:=Zie (f:=dead1 (Zab d) (Za0 d)) (B:=1) d.pool.at_.length (fun i _=>by unfold dead1;split<;>first|omega|(split<;>omega));have h3:Zeb d.pool.at_.length (Zab d) (Za0 d)=Zay d.pool.at_.length (dead1 (Zab d) (Za0 d)):=rfl;have h4:=h.pool.top;have h5:=h.pool.room;omega
 have HV:=Hd hv;have HT:=Hd ht;clear h hlt hl hok hv ht
 go_enter Tryz.func205,Tryz.ntmps205
 go_wp2_with fail;rw[<- HRN.out];refine HTAKE.out.mono ?_;rintro x w1 (⟨hm,rfl,hb⟩|⟨id,p',o1,rfl,hp,hr,hc,hl1⟩)
 ·
  have HM:=Hd hm;have HB:=Hd hb;clear hm hb;go_wp2_with fail
  go_ret2
  exact .inl ⟨HM.out,rfl,HB.out⟩
 ·
  have st1:=HH.out.setPool HLT.out hp hc;have hpl:=hp.tk_lt (i:=id) (by have h1:=hr.get id;unfold Zam.get at h1;rw[if_pos rfl] at h1;split at h1;(· assumption);cases h1);have hpt:=hp.top;have hpr:=hp.room;have HS1:Hid (AddS o w sb { d with pool:=p' } s.ts s.vt o1 w1):=⟨⟨s,st1,rfl,rfl⟩,hl1,hc.mono (fun r hr=>by simp[Zas,hr])⟩;have HR:=Hd hr;have hidl:id<=1048577:=by omega
  clear hp hr hc hl1 st1 HTAKE hpl hpt hpr c0 c1 c2 c3 c4 f0;go_wp2_with fail
  go_loopg [] (id+1-d.counts.length) (fun gk wx=>∃ (j:Nat) (o2:Own),AddS o w sb { d with pool:=p',counts:=padC d.counts j } s.ts s.vt o2 wx/\j+gk=id+1-d.counts.length)
  case atStart=>exact⟨0,o1,by have e:padC d.counts 0=d.counts:=by { simp[padC] };rw[e];exact HS1.out,by omega⟩
  case round =>
   obtain⟨j,o2,hS,hj⟩:=hrel;obtain⟨⟨s2,hst,hts,hvt⟩,hl2,hc2⟩:=hS;clear HS1;obtain⟨c0,c1,c2,c3,c4,f0⟩:=cells5 hst.blk;have lsb:sb<wr.heap.size:=Zaa c0;have hclen:(padC d.counts j).length<=1048578:=by rw[Zh8];omega
   have HST:=Hd hst;have HL2:=Hd hl2;have HC2:=Hd hc2;have HTS:=Hd hts;have HVT:=Hd hvt
   by_cases hlt:(padC d.counts j).length<=id
   ·
    obtain⟨a,cap,hv,hcc,hcm,hnil,_⟩:=hst.counts.slice;have hvv:s2.vc=.slice a (padC d.counts j).length cap:=hv;rw[hvv] at c3;have HJ:=Hd hj;have HCO:RowR o2 wr .counts 3 1 (.slice a (padC d.counts j).length cap) (padC d.counts j).length ((padC d.counts j).map nat64):=by have:=hst.counts;rw[hvv] at this;exact this
    have hgk:0<gk:=by rw[Zh8] at hlt;omega
    have hle:((padC d.counts j).length:Int)<=id:=by omega
    obtain⟨cl,hcl'⟩:∃ n,n=(padC d.counts j).length:=⟨_,rfl⟩;rw[<- hcl'] at hclen hlt hle c3 HCO;have HCO2:=Hd HCO;have HCL:=Hd hcl';clear hst hl2 hc2 hts hvt hv hvv HCO hj hcl'
    go_wp2_with (at_builtin
                 refine Zds 22 3 1 8 _ Tryz.underlying22 Zuf rfl (by decide) rfl _ _ rfl rfl rfl rfl (by simp) rfl (fun u hu=>by simp at hu;subst hu;rfl) HCO2.out HL2.out (by omega) (by decide) ?_;intro g1 k1 w2 o3 hr1 hc1 hl1;obtain⟨q0,q1,q2,q3,q4,fq⟩:=cells5 ((hc1.same HL2.out HST.out.own (by simp)).trans HST.out.blk);have HR1:=Hd hr1;have HC1:=Hd hc1;have HL1:=Hd hl1;clear hr1 hc1 hl1 c0 c1 c2 c3 c4 f0)
    have hr2:=HR1.out;rw[show (padC d.counts j).map nat64++(#[Value.int .i64 0]:Array Value).toList=(padC d.counts (j+1)).map nat64 from by rw[Zu7,List.map_append];rfl] at hr2;have e1:cl+1=(padC d.counts (j+1)).length:=by rw[HCL.out,Zh8,Zh8];omega
    have HST3:=Hd (HST.out.setVc (cs:=padC d.counts (j+1)) HL2.out (by rw[<- e1];exact hr2) HC1.out);have HS3:Hid (AddS o w sb { d with pool:=p',counts:=padC d.counts (j+1) } s.ts s.vt o3 (w2.setCell ⟨sb,3,none⟩ (.slice (some ⟨g1,0,none⟩) (cl+1) k1))):=⟨⟨_,HST3.out,HTS.out,HVT.out⟩,HL1.out.mono (by simp[World.setCell]),(HC2.out.trans (HC1.out.mono (fun r hr=>by simp[Zas,hr]))).setCell (p:=⟨sb,3,none⟩) (HC1.out.ext _ _ HST.out.own) (.inl rfl) _⟩;clear hr2 e1
    go_roundg (gk-1)
    case measure=>omega
    case rel=>exact⟨j+1,o3,HS3.out,by have:=HJ.out;omega⟩
   ·
    have hidc:id<(padC d.counts j).length:=by omega
    have hle:(id:Int)<(padC d.counts j).length:=by omega
    obtain⟨gc,cap,hvc,hgo,hne,hlc,hcm,hfz,hcell⟩:=hst.countsAt hidc;have hvv:s2.vc=.slice (some ⟨gc,0,none⟩) (padC d.counts j).length cap:=hvc;rw[hvv] at c3;have hcx:=hcell _ hidc;have hfx:=hfz id;have hne':sb≠gc:=fun e=>hne e.symm
    have st3:=hst.setCount hvc hne id 0;have lt3:Zak o2 (wr.setCell ⟨gc,id,none⟩ (.int .i64 ((0:Nat):Int))):=hl2.mono (by simp[World.setCell]);have st4:=st3.setDead lt3 (d.dead+1);have lt4:Zak o2 ((wr.setCell ⟨gc,id,none⟩ (.int .i64 ((0:Nat):Int))).setCell ⟨sb,4,none⟩ (.int .i64 ((d.dead+1:Nat):Int))):=lt3.mono (by simp[World.setCell]);have ch4:=(hc2.setCell (p:=⟨gc,id,none⟩) hgo (by simp[Zas]) (.int .i64 ((0:Nat):Int))).setCell (p:=⟨sb,4,none⟩) hst.own (by simp[Zas]) (.int .i64 ((d.dead+1:Nat):Int));have hdb:d.dead<=1048577:=HREL2.out;have hclen':(padC d.counts j).length<=9223372036854775807:=by omega
    obtain⟨W4,hW4⟩:∃ W,W=(wr.setCell ⟨gc,id,none⟩ (.int .i64 ((0:Nat):Int))).setCell ⟨sb,4,none⟩ (.int .i64 ((d.dead+1:Nat):Int)):=⟨_,rfl⟩;rw[<- hW4] at st4 lt4 ch4;have HWE:Hid (W4=(wr.setCell ⟨gc,id,none⟩ (.int .i64 0)).setCell ⟨sb,4,none⟩ (.int .i64 ((d.dead:Int)+1))):=by
     show _=_
     rw[hW4,show ((d.dead+1:Nat):Int)=(d.dead:Int)+1 from by omega];rfl
    have HS4:=Hd st4;have HL4:=Hd lt4;have HC4:=Hd ch4;have HID:=Hd hidc;obtain⟨cl,hcl'⟩:∃ n,n=(padC d.counts j).length:=⟨_,rfl⟩;rw[<- hcl'] at hle c3 hclen hclen';have HCLE:Hid ((padC d.counts j).length<=1048578):=by show _<=_;omega
    obtain⟨dn,hdn⟩:∃ n,n=d.dead:=⟨_,rfl⟩;have c4':wr.cell? ⟨sb,4,none⟩=some (.int .i64 (dn:Nat)):=by rw[hdn];exact c4
    rw[<- hdn] at hdb HWE;clear hst hl2 hc2 hts hvt hvc hgo hne hlc hcm hfz hcell hvv st3 lt3 st4 lt4 ch4 hW4 hlt hidc c4 hcl' hdn HST HL2 HC2 hj;have hle2:¬ ((cl:Int)<=id):=by omega
    go_upto_region 8 with fail;rw[<- HWE.out];clear HWE c0 c1 c2 c3 c4' f0 hcx hfx hne' hle hle2 hdb hclen hclen';obtain⟨c0,c1,c2,c3,c4,f0⟩:=cells5 HS4.out.blk;obtain⟨gt,ct,hvt,cellv,hvl⟩:=HS4.out.tabAt (v:=v) HV.out;rw[hvt] at c2;have hti:=HS4.out.tab v (by rw[HS4.out.tlen];exact HV.out);have HPUT:=Hd (Zvd o2 v (s2.ts.getD v 0) (d.tab v) lo hi id W4 hti HL4.out HT.out);have hvl':(v:Int)<s2.ts.length:=by omega
    obtain⟨tv,htv⟩:∃ t,t=s2.ts.getD v 0:=⟨_,rfl⟩;rw[<- htv] at cellv HPUT;have HTV:=Hd htv;have htl:s2.ts.length<=9223372036854775807:=hvl.2;clear hti htv hvt hvl;go_wp2_with fail;refine HPUT.out.mono ?_;rintro x w5 ⟨rfl,ht5,hc5,hl5⟩;rw[HTV.out] at ht5;have HS5:=Hd (HS4.out.setTab HL4.out ht5 hc5);have HL5:=Hd hl5;have HC5:=Hd (HC4.out.trans (hc5.mono (fun r hr=>by simp[Zas,hr])));clear ht5 hc5 hl5 c0 c1 c2 c3 c4 f0 cellv;go_wp2_with fail
    go_ret2
    exact .inr ⟨id,d.added p' (padC d.counts j) id v lo hi,o2,rfl,⟨s2,HS5.out⟩,HL5.out,HREL.out p' id j HR.out HID.out HCLE.out,HC5.out⟩
open Go.RowKit
def levN (d:Zag) (v:Nat):Nat:=d.level.getD v 0
structure Zan (d:Zag) (V:Nat->BF):Prop where
 dag:Dag d.vars.length (levN d) (Zab d) V
 live:Zcc d (Za2 d)
 tab:∀ v,v<d.vars.length->∀ lo hi id,d.tab v (lo,hi)=some id↔Zab d id=some ⟨v,lo,hi⟩
 clen:d.counts.length<=1048578
 small:d.vars.length<=64
 inv:∀ v,v<d.vars.length->d.vars.getD (levN d v) 0=v
 vlt:∀ i,i<d.vars.length->d.vars.getD i 0<d.vars.length/\levN d (d.vars.getD i 0)=i
structure Ext (d:Zag) (V:Nat->BF) (d':Zag) (V':Nat->BF):Prop where
 vars:d'.vars=d.vars
 level:d'.level=d.level
 room:d'.pool.room=d.pool.room
 nodes:∀ i b,Zab d i=some b->Zab d' i=some b
 val:∀ i,(i=0\/∃ b,Zab d i=some b)->V' i=V i
 ext:∀ i b,Zab d i=some b->Za2 d' i=Za2 d i
 ext0:∀ i,Zab d i=none->Za2 d' i=0
 many:d.pool.many<=d'.pool.many
theorem Zeh {d:Zag} {i:Nat} (h:Zab d i=none):Za2 d i=0:=by unfold Za2;rw[Zge h];simp
theorem Ext.refl (d:Zag) (V:Nat->BF):Ext d V d V:=⟨rfl,rfl,rfl,fun _ _ h=>h,fun _ _=>rfl,fun _ _ _=>rfl,fun _ h=>Zeh h,Nat.le_refl _⟩
theorem Ext.trans {d d' d'':Zag} {V V' V'':Nat->BF} (h:Ext d V d' V') (h':Ext d' V' d'' V''):Ext d V d'' V'':=by
 refine⟨h'.vars.trans h.vars,h'.level.trans h.level,h'.room.trans h.room,fun i b hb=>h'.nodes i b (h.nodes i b hb),fun i hi=>?_,fun i b hb=>?_,fun i hi=>?_,Nat.le_trans h.many h'.many⟩
 ·
  rw[h'.val i (hi.imp id fun⟨b,hb⟩=>⟨b,h.nodes i b hb⟩)];exact h.val i hi
 ·
  rw[h'.ext i b (h.nodes i b hb)];exact h.ext i b hb
 ·
  cases e:Zab d' i with
  | none=>exact h'.ext0 i e
  | some b=>rw[h'.ext i b e];exact h.ext0 i hi
section
variable {d d':Zag} {V V':Nat->BF}
theorem Ext.ok (h:Ext d V d' V') {e:Nat} (he:okE (Zab d) e):okE (Zab d') e:=he.imp id fun⟨b,hb⟩=>⟨b,h.nodes _ b hb⟩
theorem Ext.ef (h:Ext d V d' V') {e:Nat} (he:okE (Zab d) e):ef V' e=ef V e:=by
 funext ρ;unfold Go.Proofs.YtmofaapnkidioaaGreat.ef;rw[h.val (e/2) he]
theorem Ext.lev (h:Ext d V d' V'):levN d'=levN d:=by funext v;unfold levN;rw[h.level]
theorem Ext.lvE (h:Ext d V d' V') {n:Nat} {e:Nat} (he:okE (Zab d) e) (h0:Zab d 0=none) (h0':Zab d' 0=none):lvE n (levN d') (Zab d') e=lvE n (levN d) (Zab d) e:=by
 unfold Go.Proofs.YtmofaapnkidioaaGreat.lvE;rw[h.lev];rcases he with he|⟨b,hb⟩
 ·
  rw[he,h0,h0']
 ·
  rw[hb,h.nodes _ b hb]
theorem Ztd {id v lo hi:Nat} (h:Zan d V) (r:Zjs d d' id v lo hi) (hv:v<d.vars.length) (hlo:okE (Zab d) lo) (hhi:okE (Zab d) hi)
 (llo:levN d v<lvE d.vars.length (levN d) (Zab d) lo) (lhi:levN d v<lvE d.vars.length (levN d) (Zab d) hi) (hr:hi%2=0) (hne:lo≠hi) (ht:d.tab v (lo,hi)=none) :
 Zan d' (addV V id ⟨v,lo,hi⟩)/\Ext d V d' (addV V id ⟨v,lo,hi⟩):=by
 have hnew:∀ i,Zab d i≠some ⟨v,lo,hi⟩:=fun i e=>by rw[(h.tab v hv lo hi i).2 e] at ht;cases ht
 have hl:levN d'=levN d:=by funext u;unfold levN;rw[r.level]
 have hid:id≠0:=by have:=r.pos;omega
 refine⟨⟨?_,r.live,fun u hu lo' hi' i=>?_,r.clen,by rw[r.vars];exact h.small,?_,?_⟩,⟨r.vars,r.level,r.room,fun i b hb=>?_,fun i hi'=>?_,fun i b hb=>?_,fun i hi'=>?_,by rw[r.many];omega⟩⟩
 ·
  rw[r.vars,hl,r.nodes];exact h.dag.add r.none hid hv hlo hhi llo lhi hr hne hnew
 ·
  rw[r.vars] at hu;rw[r.tab,r.nodes];dsimp only
  by_cases e:u=v
  ·
   subst e;rw[if_pos rfl];unfold putF
   by_cases e2:(lo',hi')=(lo,hi)
   ·
    cases e2;rw[if_pos rfl];constructor
    ·
     intro e3;cases e3;rw[Zby]
    ·
     intro e3
     by_cases e4:i=id
     ·
      rw[e4]
     ·
      rw[Za8 _ e4] at e3;exact absurd e3 (hnew i)
   ·
    rw[if_neg e2,h.tab u hu]
    by_cases e4:i=id
    ·
     subst e4;rw[Zby,r.none];constructor
     ·
      intro e5;cases e5
     ·
      intro e5;cases e5;exact absurd rfl e2
    ·
     rw[Za8 _ e4]
  ·
   rw[if_neg e,h.tab u hu]
   by_cases e4:i=id
   ·
    subst e4;rw[Zby,r.none];constructor
    ·
     intro e5;cases e5
    ·
     intro e5;cases e5;exact absurd rfl e
   ·
    rw[Za8 _ e4]
 ·
  rw[r.vars,hl];exact h.inv
 ·
  rw[r.vars,hl];exact h.vlt
 ·
  rw[r.nodes];exact Zl1 r.none hb
 ·
  unfold addV;rw[if_neg];rintro rfl;rcases hi' with hi'|⟨b,hb⟩
  ·
   exact hid hi'
  ·
   rw[r.none] at hb;cases hb
 ·
  rw[r.ext];dsimp only;rw[if_neg];rintro rfl;rw[r.none] at hb;cases hb
 ·
  rw[r.ext];dsimp only;split
  ·
   rfl
  ·
   exact Zeh hi'
theorem Zu5 (h:Zan d V) {id v lo hi:Nat} (hb:Zab d id=some ⟨v,eflip lo (eneg hi),eflip hi (eneg hi)⟩):ef V (eflip (2*id) (eneg hi))=iteF v (ef V hi) (ef V lo):=by
 funext ρ;have h1:=h.dag.eqn id _ hb;have h2:ef V (2*id)=V id:=by
  funext ρ;have e1:2*id/2=id:=by omega
  have e2:2*id%2=0:=by omega
  simp[ef,e1,e2]
 rw[Zc9,h2,h1];simp only[iteF];rw[Zc9,Zc9];cases ρ v<;>cases eneg hi<;>simp
theorem Zlj (hi:Nat):eflip hi (eneg hi)%2=0:=by
 unfold eflip eneg;rcases Nat.mod_two_eq_zero_or_one hi with h|h
 ·
  simp[h]
 ·
  simp[h,Zmb]
theorem Zjk {lo hi:Nat} {b:Bool} (h:lo≠hi):eflip lo b≠eflip hi b:=by
 unfold eflip;cases b
 ·
  simpa using h
 ·
  simp only[if_true];intro e;have:=congrArg enot e;rw[Znv,Znv] at this;exact h this
theorem Zd2 {n:Nat} {lev:Nat->Nat} {N:Nat->Option BN} {e:Nat} {b:Bool}:lvE n lev N (eflip e b)=lvE n lev N e:=by unfold lvE;rw[Zc0]
end
def Zfy (d:Zag) (v:Int):Int:=if 0<=v/\v<d.level.length then (levN d v.toNat:Nat) else -1
theorem Zr9 (d:Zag) (v:Nat):Zfy d v=d.levelOf v:=by
 unfold Zfy Zag.levelOf levN
 by_cases h:v<d.level.length
 ·
  rw[if_pos ⟨by omega,by omega⟩,if_pos h];rfl
 ·
  rw[if_neg (by omega),if_neg h]
theorem Zkb {o:Own} {w:World} {sb:Nat} {d:Zag} {s:Za5} (h:Zao o w sb d s) (v:Int) (hv:v<0) :
 Calls Tryz.prog 158 #[.pointer (some ⟨s.lb,0,none⟩),.int .i64 v] w fun x w'=>x=.returned (.int .i64 (-1))/\w=w':=by
 clear h
 go_enter Tryz.func158,Tryz.ntmps158
 go_wp2_with fail;go_ret;exact⟨rfl,rfl⟩
theorem Zla {o:Own} {w:World} {sb:Nat} {d:Zag} {s:Za5} (h:Zao o w sb d s) (v:Int) (hv:v<0) :
 Calls Tryz.prog 83 #[.pointer (some ⟨sb,0,none⟩),.int .i64 v] w fun x w'=>x=.returned (.int .i64 (-1))/\w=w':=by
 obtain⟨c0,c1,c2,c3,c4,f0⟩:=cells5 h.blk;have HC:=Hd (Zkb h v hv);clear h hv
 go_enter Tryz.func83,Tryz.ntmps83
 go_wp2_with fail;refine HC.out.mono ?_;rintro x w' ⟨rfl,rfl⟩;go_wp2_with fail;go_ret;exact⟨rfl,rfl⟩
theorem Zhm {o:Own} {w:World} {sb:Nat} {d:Zag} {s:Za5} (h:Zao o w sb d s) (v:Int) (hbig:d.level.length<1000000) :
 Calls Tryz.prog 83 #[.pointer (some ⟨sb,0,none⟩),.int .i64 v] w fun x w'=>x=.returned (.int .i64 (Zfy d v))/\w=w':=by
 by_cases h0:v<0
 ·
  have e:Zfy d v = -1:=by unfold Zfy;rw[if_neg (by omega)]
  rw[e];exact Zla h v h0
 ·
  obtain⟨n,rfl⟩:=Int.eq_ofNat_of_zero_le (by omega:0<=v);have e:=Zr9 d n;rw[e];exact Zca h n hbig
end Go.Proofs.YtmofaapnkidioaaGreat
