/- Several texts in one file: contracts of the program's functions and what follows from them. -/
import Derived.Test.YtkidaindpahefaaGreatD1
import Derived.Laws.MakeOwn
import Derived.Laws.IdiomCopy
import Derived.Deep.Cut
import Derived.Deep.CutRange
import Derived.Deep.DeepCutAuto
set_option linter.unusedSimpArgs false
set_option linter.unusedVariables false
set_option linter.unusedSectionVars false
set_option linter.unnecessarySimpa false
set_option maxRecDepth 100000
set_option maxHeartbeats 8000000
namespace Go.Proofs.YtkidaindpahefaaGreat
open Go.Proofs.Tryz
open Go.RowKit
theorem Ydr (d:Nat)(w:World)(a b c a' b' c':Nat):(Op.equalIn (d+2) 281 (.agg #[.int .i64 a,.int .i64 b,.int .i64 c]) (.agg #[.int .i64 a',.int .i64 b',.int .i64 c'])).run prog w=.ok (decide (a=a'/\b=b'/\c=c')) w:=by
 have hq:=fun(x y:Int)=>run_equalIn_int (P:=prog) w d 101 .i64 .i64 x y underlying101
 have s:=Zoh;cases hi:prog.info? 101 with
 | none=>rw[hi] at s;cases s
 | some i =>
   have hs:=run_sizeOf w hi;rw[show prog.cellsOf 101=1 by kernel_rfl] at hs;have p0:=fun a b c:Nat=>Zex w underlying101 #[.int .i64 a,.int .i64 b,.int .i64 c] 0 _ rfl
   have p1:=fun a b c:Nat=>Zex w underlying101 #[.int .i64 a,.int .i64 b,.int .i64 c] 1 _ rfl
   have p2:=fun a b c:Nat=>Zex w underlying101 #[.int .i64 a,.int .i64 b,.int .i64 c] 2 _ rfl
   unfold Op.equalIn;simp only[Sem.run_bind,run_underlying underlying281,Result.andThen_ok,hs];simp[List.range',p0,p1,p2,hq];have e1:((a:Int)=a')↔a=a':=by omega
   have e2:((b:Int)=b')↔b=b':=by omega
   have e3:((c:Int)=c')↔c=c':=by omega
   by_cases h1:a=a'<;>by_cases h2:b=b'<;>by_cases h3:c=c'<;>simp[e1,e2,e3,h1,h2,h3]
theorem Yee (w:World)(op op':Int)(a b c a' b' c':Nat):(Op.equal 283 (keyV op a b c) (keyV op' a' b' c')).run prog w=.ok (decide (op=op'/\a=a'/\b=b'/\c=c')) w:=by
 have hq:=fun(x y:Int)=>run_equalIn_int (P:=prog) w 9998 3 .i64 .i64 x y underlying3
 have h:=run_equalIn_struct (P:=prog) w 9999 283 #[.int .i64 op,.int .i64 a,.int .i64 b,.int .i64 c] #[.int .i64 op',.int .i64 a',.int .i64 b',.int .i64 c'] (by simp[Program.fieldsOf,underlying283]) (by kernel_rfl);have h3:=Ydr 9997 w a b c a' b' c';have hd:Op.maxDepth=9999+1:=rfl;have g0:∀ op a b c:Value,(part 281 #[op,a,b,c] 1).run prog w=.ok (.agg #[a,b,c]) w:=by
  intro op a b c;cases hi:prog.info? 281 with
  | none => have s : (prog.info? 281).map (fun i => i.size) = some 3 := by kernel_rfl
            rw[hi] at s;cases s
  | some i =>
    have hs:=run_sizeOf w hi;rw[show prog.cellsOf 281=3 by kernel_rfl] at hs;simp[part,isAgg,run_underlying underlying281]
 have g1:∀ op a b c:Value,(part 3 #[op,a,b,c] 0).run prog w=.ok op w:=fun op a b c=>Zex w underlying3 _ 0 _ rfl
 unfold Op.equal keyV;rw[hd,h];simp only[Program.fieldsOf,underlying283];simp[Op.eqFields,g0,g1,hq,h3]
 by_cases h1:op=op'<;>by_cases h2:a=a'<;>by_cases h3:b=b'<;>by_cases h4:c=c'<;>simp[h1,h2,h3,h4]
theorem Zu3 (w:World)(op op':Int)(a b c a' b' c':Nat):(binOp .neq 283 (.agg #[.int .i64 op,.int .i64 a,.int .i64 b,.int .i64 c]) (.agg #[.int .i64 op',.int .i64 a',.int .i64 b',.int .i64 c'])).run prog w=.ok (.bool (!decide (op=op'/\a=a'/\b=b'/\c=c'))) w:=by
 have h:=Yee w op op' a b c a' b' c';unfold keyV at h;simp only[binOp];simp[h]
structure EntD where
 op:Int
 a:Nat
 b:Nat
 c:Nat
 r:Nat
 full:Bool
def entV (e:EntD):List Value:=[.int .i64 e.op,.int .i64 e.a,.int .i64 e.b,.int .i64 e.c,.int .i64 e.r,.bool e.full]
theorem Zbv (e:EntD):(entV e).length=6:=rfl
def ent0:EntD:=⟨0,0,0,0,0,false⟩
def Zer (l:List EntD)(i:Nat):EntD:=l.getD i ent0
abbrev Phi:=Int->Nat->Nat->Nat->Nat->Prop
def Zvh (F:Phi)(l:List EntD):Prop:=∀ i,(Zer l i).full=true->F (Zer l i).op (Zer l i).a (Zer l i).b (Zer l i).c (Zer l i).r
structure Zci (o:Own)(w:World)(mb:Nat)(F:Phi):Prop where
 own:o mb=some .memo
 ex:∃ ve asked found,w.heap[mb]?=some (.cells #[.int .i64 4096,ve,.int .i64 asked,.int .i64 found] 177 (0,0)) /\
  (ve=.slice none 0 0\/∃ ge cap l,ve=.slice (some ⟨ge,0,none⟩) 4096 cap/\l.length=4096/\RowR o w .entries 287 6 ve 4096 (l.flatMap entV)/\Zvh F l)
theorem Zci.keep {o o':Own}{w w':World}{mb:Nat}{F:Phi}(h:Zci o w mb F)(hk:∀ g r,o g=some r->(r=.memo\/r=.entries)->w'.heap[g]?=w.heap[g]?)(ho:∀ g r,o g=some r->o' g=some r):Zci o' w' mb F:=by
 obtain⟨ve,a,f,h1,h2⟩:=h.ex;refine⟨ho _ _ h.own,ve,a,f,(hk _ _ h.own (.inl rfl)).trans h1,h2.imp id ?_⟩;rintro⟨ge,cap,l,e1,e2,e3,e4⟩;exact⟨ge,cap,l,e1,e2,e3.keep (fun g hg=>hk g _ hg (.inr rfl)) (fun g hg=>ho g _ hg),e4⟩
theorem Zci.chg {R:Role->Prop}{o o':Own}{w w':World}{mb:Nat}{F:Phi}(h:Zci o w mb F)(hc:Chg R o o' w w')(hlt:Zah o w)(h1:¬ R .memo)(h2:¬ R .entries):Zci o' w' mb F :=
 h.keep (fun g r hg hr=>hc.same hlt hg (by rcases hr with rfl|rfl<;>assumption)) hc.ext
theorem cells4 {w:World}{g:Nat}{a b c d:Value}{T:TypeId}(h:w.heap[g]?=some (.cells #[a,b,c,d] T (0,0))):w.cell? ⟨g,0,none⟩=some a/\w.cell? ⟨g,1,none⟩=some b/\w.cell? ⟨g,2,none⟩=some c/\w.cell? ⟨g,3,none⟩=some d/\(∀ k,w.frozen? ⟨g,k,none⟩=false) :=
 ⟨by rw[cell_of_row w g 0 _ _ _ h];rfl,by rw[cell_of_row w g 1 _ _ _ h];rfl,by rw[cell_of_row w g 2 _ _ _ h];rfl,by rw[cell_of_row w g 3 _ _ _ h];rfl,fun k=>by simp[World.frozen?,h]⟩
theorem Znn {o:Own}{w:World}{g cap m:Nat}{l:List EntD}(h:RowR o w .entries 287 6 (.slice (some ⟨g,0,none⟩) m cap) 4096 (l.flatMap entV))(hl:l.length=4096){k:Nat}(hk:k<4096) :
 w.cell? ⟨g,k*6,none⟩=some (.int .i64 (Zer l k).op)/\w.cell? ⟨g,k*6+1,none⟩=some (.int .i64 (Zer l k).a)/\w.cell? ⟨g,k*6+2,none⟩=some (.int .i64 (Zer l k).b)/\w.cell? ⟨g,k*6+3,none⟩=some (.int .i64 (Zer l k).c) /\
 w.cell? ⟨g,k*6+4,none⟩=some (.int .i64 (Zer l k).r)/\w.cell? ⟨g,k*6+5,none⟩=some (.bool (Zer l k).full):=by
 have hx:l[k]?=some (Zer l k):=by simp[Zer,List.getD,hl,hk]
 have g0:(l.flatMap entV).length=4096*6:=by rw[Zba entV 6 Zbv,hl]
 have e:=fun j (hj:j<6)=>(h.cell (k*6+j) (by rw[g0];omega)).trans (Zfo entV 6 Zbv l k j _ hx hj)
 exact⟨e 0 (by omega),e 1 (by omega),e 2 (by omega),e 3 (by omega),e 4 (by omega),e 5 (by omega)⟩
def Yb1 (F:Phi)(op:Int)(a b c:Nat)(x:Ending):Prop:=x=.returned (.tuple #[.int .i64 0,.bool false])\/∃ r:Nat,x=.returned (.tuple #[.int .i64 r,.bool true])/\F op a b c r
theorem Ycu (o:Own)(mb:Nat)(F:Phi)(op:Int)(a b c:Nat)(w:World)(h:Zci o w mb F)(hlt:Zah o w) :
 Calls prog 202 #[.pointer (some ⟨mb,0,none⟩),.int .i64 op,.int .i64 a,.int .i64 b,.int .i64 c] w fun x w'=>Yb1 F op a b c x/\Zci o w' mb F/\Chg (· = .memo) o o w w'/\Zah o w':=by
 obtain⟨ve,asked,found,gd,hv⟩:=h.ex;obtain⟨c0,c1,c2,c3,f0⟩:=cells4 gd;obtain⟨W,hW⟩:∃ W,W=w.setCell ⟨mb,2,none⟩ (.int .i64 (wrap64 (asked+1))):=⟨_,rfl⟩;have g2:W.heap[mb]?=some (.cells #[.int .i64 4096,ve,.int .i64 (wrap64 (asked+1)),.int .i64 found] 177 (0,0)):=by rw[hW];exact Zac gd _
 have g9:Chg (· = .memo) o o w W:=by rw[hW];exact Chg.setCell (R:=(· = .memo)) (Chg.refl _ o w) (p:=⟨mb,2,none⟩) h.own rfl _
 have gf:Zah o W:=hlt.mono g9.size;rcases hv with rfl|⟨ge,cap,l,rfl,hl,gi,gl⟩
 ·have g6:Zci o W mb F:=⟨h.own,_,_,_,g2,.inl rfl⟩;have HF:=Hd g6;have HC:=Hd g9;have HL:=Hd gf;have HW:=Hd hW;obtain⟨d0,d1,d2,d3,g0⟩:=cells4 g2;rw[hW] at d0 d1 d2 d3 g0;clear h hlt gd g2 g9 gf g6 hW
  go_enter func202,ntmps202
  go_wp2_with fail
  go_ret2
  rw[<- HW.out];exact⟨.inl rfl,HF.out,HC.out,HL.out⟩
 ·have gj:RowR o W .entries 287 6 (.slice (some ⟨ge,0,none⟩) 4096 cap) 4096 (l.flatMap entV):=gi.chg g9 hlt (by simp);have g6:Zci o W mb F:=⟨h.own,_,_,_,g2,.inr ⟨ge,cap,l,rfl,hl,gj,gl⟩⟩;obtain⟨d0,d1,d2,d3,g0⟩:=cells4 g2;have hB:=(Zae W (.cells #[.int .i64 op,.int .i64 a,.int .i64 b,.int .i64 c] 283));have e1:=(hB.cell (p:=⟨mb,1,none⟩) (Zab d1)).trans d1;have gp:=Hd (Zp7 mb ge cap op a b c _ e1);have hz:W.heap.size=w.heap.size:=by rw[hW];simp[World.setCell]
  obtain⟨bx,gn⟩:∃ bx,bx=w.heap.size:=⟨_,rfl⟩;obtain⟨WK,gh⟩:∃ WK,WK=W.alloc (.cells #[.int .i64 op,.int .i64 a,.int .i64 b,.int .i64 c] 283):=⟨_,rfl⟩;have gw:WK.heap[bx]?=some (.cells #[.int .i64 op,.int .i64 a,.int .i64 b,.int .i64 c] 283 (0,0)):=by rw[gh,gn,<- hz];exact heap_alloc_new W _
  rw[<- gh] at gp hB;have gK:=Hd g6;have gI:=Hd g9;have gr:=Hd gf;have gE:=Hd gj;have HL:=Hd hl;have gq:=Hd gl;have HB:=Hd hB;have gy:=Hd gw;have gG:=Hd g2;have g8:=Hd h.own;have HW:=Hd hW;have gD:=Hd gh;have HZ:=Hd hz;have gJ:=Hd gn;rw[hW] at d0 d1 d2 d3 g0;have lmb:mb<w.heap.size:=Zab c0;clear h hlt gd g2 g9 gf g6 hW gj gl hl gi hB gw gh gn hz e1
  go_enter func202,ntmps202
  go_wp2_with fail;rw[<- HW.out,<- gD.out,<- gJ.out];refine gp.out.mono ?_;rintro x w2 ⟨i,hi,rfl,go⟩;have g7:Below W.heap.size W w2:=HB.out.trans (go.mono HB.out.size);have g3:=gE.out.below gr.out g7;have ga:=(g7.block mb (gr.out _ _ g8.out)).trans gG.out;have gm:=(go.block bx (Array.getElem?_eq_some_iff.1 gy.out).1).trans gy.out;have gx:Chg (· = .memo) o o w w2:=gI.out.trans (Chg.of_below g7 _ _);have gv:Zah o w2:=gr.out.mono g7.size;obtain⟨E,hE⟩:∃ E,Zer (l:=l) i=E:=⟨_,rfl⟩;obtain⟨n0,n1,n2,n3,n4,n5⟩:=Znn g3 HL.out hi;rw[hE] at n0 n1 n2 n3 n4 n5;obtain⟨k0,k1,k2,k3,fk⟩:=cells4 gm;clear d0 d1 d2 d3 g0 c0 c1 c2 c3 f0 lmb;obtain⟨d0,d1,d2,d3,g0⟩:=cells4 ga;have gg:Zci o w2 mb F:=⟨g8.out,_,_,_,ga,.inr ⟨ge,cap,l,rfl,HL.out,g3,gq.out⟩⟩;have gz:=Hd gg;have gu:=Hd gx;have gt:=Hd gv;have gB:=Hd ga;have gF:=Hd g3;have gA:=Hd hE;clear gg gx gv go g7 g3 ga gm hE gp;have g4:=Zu3
  by_cases g1:E.full=true
  ·rw[g1] at n5;have gH:=Hd g1
   by_cases g5:E.op=op/\E.a=a/\E.b=b/\E.c=c
   ·have hd:decide (E.op=op/\E.a=a/\E.b=b/\E.c=c)=true:=decide_eq_true g5;have gC:∀ w,(binOp .neq 283 (.agg #[.int .i64 E.op,.int .i64 E.a,.int .i64 E.b,.int .i64 E.c]) (.agg #[.int .i64 op,.int .i64 a,.int .i64 b,.int .i64 c])).run prog w=.ok (.bool false) w:=fun w=>by rw[g4,hd];rfl
    have HK:=Hd g5;clear g4 hd g5 g1;go_wp2_with fail
    go_quiet (fail)
    go_wp2_with fail
    go_ret2
    have gk:=gq.out i (by rw[gA.out];exact gH.out);rw[gA.out,HK.out.1,HK.out.2.1,HK.out.2.2.1,HK.out.2.2.2] at gk;refine⟨.inr ⟨E.r,rfl,gk⟩,⟨g8.out,_,_,_,Zac (w:=w2.drewN nq) gB.out _,.inr ⟨ge,cap,l,rfl,HL.out,?_,gq.out⟩⟩,Chg.setCell (R:=(· = .memo)) (gu.out.drewN nq) (p:=⟨mb,3,none⟩) g8.out rfl _,gt.out.mono (by simp[World.setCell])⟩;exact(gF.out.keep (w':=w2.drewN nq) (fun _ _=>rfl) (fun _ h=>h)).setCell_other (p:=⟨mb,3,none⟩) (by rw[g8.out];simp) _
   ·have hd:decide (E.op=op/\E.a=a/\E.b=b/\E.c=c)=false:=decide_eq_false g5;have gC:∀ w,(binOp .neq 283 (.agg #[.int .i64 E.op,.int .i64 E.a,.int .i64 E.b,.int .i64 E.c]) (.agg #[.int .i64 op,.int .i64 a,.int .i64 b,.int .i64 c])).run prog w=.ok (.bool true) w:=fun w=>by rw[g4,hd];rfl
    clear g4 hd g5 g1;go_wp2_with fail
    go_quiet (fail)
    go_wp2_with fail
    go_ret2
    exact⟨.inl rfl,gz.out.keep (fun _ _ _ _=>rfl) (fun _ _ h=>h),gu.out.drewN _,gt.out⟩
  ·have gc:E.full=false:=by simpa using g1
   rw[gc] at n5;clear g4 g1 gc;go_wp2_with fail
   go_quiet (fail)
   go_wp2_with fail
   go_ret2
   exact⟨.inl rfl,gz.out.keep (fun _ _ _ _=>rfl) (fun _ _ h=>h),gu.out.drewN _,gt.out⟩
open Go.RowKit
theorem Zq1 {ops:Array Oper}{rest:List Oper}{o:Oper}{a:Act}{Q:Exit->Act->World->Prop}{wr:World}(hgd:o.guard=none)(l c:Operand)
 (ho:o.op=.makeSlice 22 l c) (base:Nat) (w0:World) (L:Int) (n:Nat) (hl:a.eval l=.int .i64 L) (hc:a.eval c=.int .i64 L) (hL:L=n) (hn:n<1099511627776)
 (hbase:base<=wr.heap.size) (hb:Below base w0 wr)
 (h:∀ g w',OwnI w' base (.slice (some ⟨g,0,none⟩) n n) (List.replicate n 0)->Below base w0 w'->base<=w'.heap.size->Ze0 none wr w'->base<=g ->
  wpList prog ops Q rest (a.put o.dst (.slice (some ⟨g,0,none⟩) n n)) w') :
 wpList prog ops Q (o::rest) a wr:=by
 obtain⟨i,hi,hz,g0,g1⟩:=info_parts Zix;refine wpList_make_full wr hgd l c 22 ho base 3 i (.int .i64 0) 1 underlying22 hi hz g0 .i64 .i64 L L n hl hc hL hL (by rw[g1];omega) (by unfold maxLen;omega) hbase ?_;intro w' h1 h2;refine h wr.heap.size w' ?_ (hb.grown h2 hbase (by simp)) (by have:=h2.size;omega) (Zcv h2) hbase;unfold OwnI;have e1:Za0 (List.replicate n 0)=(madeCells (Value.int .i64 0).cells (n*1)).toList:=by
  simp[Za0,madeCells,Value.cells];apply List.ext_getElem
  . simp
  . intro j h3 h4;simp[Nat.mod_one]
 rw[List.length_replicate,e1];exact h1
theorem Zio (k n:Nat)(h:k<n):(iota k++List.replicate (n-k) 0).set k (k:Int)=iota (k+1)++List.replicate (n-(k+1)) 0:=by
 have e:n-k=(n-(k+1))+1:=by omega
 rw[e,List.replicate_succ,List.set_append_right _ _ (by simp[Zfq]),Zfq,Nat.sub_self,List.set_cons_zero,Zwx,List.append_assoc];rfl
theorem Zn3 (n:Int)(w:World) :
 Calls prog 140 #[.int .i64 n] w fun e w'=>∃ v,e=.returned v/\OwnI w' w.heap.size v (Zpg n)/\Below w.heap.size w w':=by
 obtain⟨L,hL⟩:∃ L:Nat,L=min n.toNat 64:=⟨_,rfl⟩;have g6:L<=64:=by omega
 have HF:Hid (Zpg n=iota L):=by unfold Zpg;rw[hL];rfl
 have HL:=Hd hL;clear hL
 go_enter func140,ntmps140
 go_wp2_with (at_make;refine Zq1 rfl _ _ rfl w.heap.size w _ L rfl rfl (by have:=HL.out;omega) (by omega) (Nat.le_refl _) (Below.refl _ _) ?_;intro g w1 g2 g5 hs1 g7 g4)
 all_goals
  go_loopw [11] (fun i wr=>∃ k:Nat,k<=L/\i=.int .i64 k/\OwnI wr w.heap.size (.slice (some ⟨g,0,none⟩) L L) (iota k++List.replicate (L-k) 0)/\Below w.heap.size w wr) (fun i _=>L-(intOf i).toNat)
  case atStart=>exact⟨0,by omega,rfl,by simpa [iota] using g2,g5⟩
  case round =>
   obtain⟨k,hk,rfl,g0,g1⟩:=hrel
   by_cases g3:k<L
   ·have q0:=g0.cell k (by simp[Zfq];omega);have p0:=g0.frozen k
    go_wp2
    go_roundw
    case rel=>exact⟨k+1,by omega,by go_num,by rw[<- Zio k L g3];exact g0.stored k _,g1.setCell g4 _⟩
    case measure=>simp[intOf];omega
   ·obtain rfl:k=L:=by omega
    go_wp2
    go_ret;exact⟨_,rfl,by rw[HF.out];simpa using g0,g1⟩
open Go.RowKit
theorem Zpk:(prog.info? 287).map (fun i=>(i.zero,i.size,i.bytes))=some (some (.agg #[.int .i64 0,.int .i64 0,.int .i64 0,.int .i64 0,.int .i64 0,.bool false]),6,48):=by kernel_rfl
theorem Zjj (n:Nat):(madeCells #[.int .i64 0,.int .i64 0,.int .i64 0,.int .i64 0,.int .i64 0,.bool false] (n*6)).toList=(List.replicate n ent0).flatMap entV:=by
 apply List.ext_getElem?;intro i;simp only[madeCells,Array.toList_map,Array.toList_range,List.getElem?_map]
 by_cases hi:i<n*6
 ·have e:=Zfo entV 6 Zbv (List.replicate n ent0) (i/6) (i%6) ent0 (by rw[List.getElem?_replicate,if_pos (by omega)]) (by omega);rw[show i/6*6+i%6=i by omega] at e;rw[e,List.getElem?_range hi];have hm:i%6=0\/i%6=1\/i%6=2\/i%6=3\/i%6=4\/i%6=5:=by omega
  simp only[Option.map_some];rcases hm with h|h|h|h|h|h<;>simp[h,entV,ent0]
 ·have hl:((List.replicate n ent0).flatMap entV).length=n*6:=by rw[Zba entV 6 Zbv];simp
  rw[List.getElem?_eq_none (l:=(List.replicate n ent0).flatMap entV) (by omega),List.getElem?_eq_none (by simp;omega)];rfl
theorem Zyl:(prog.info? 287).map (fun i=>i.size)=some 6:=by kernel_rfl
def set6 (w:World)(g k:Nat)(e:EntD):World :=
 (((((w.setCell ⟨g,k*6,none⟩ (.int .i64 e.op)).setCell ⟨g,k*6+1,none⟩ (.int .i64 e.a)).setCell ⟨g,k*6+2,none⟩ (.int .i64 e.b)).setCell ⟨g,k*6+3,none⟩ (.int .i64 e.c)).setCell ⟨g,k*6+4,none⟩ (.int .i64 e.r)).setCell ⟨g,k*6+5,none⟩ (.bool e.full)
theorem Zhh {w:World}{g k:Nat}(f:∀ j,w.frozen? ⟨g,j,none⟩=false){u0 u1 u2 u3 u4 u5:Value}(c0:w.cell? ⟨g,k*6,none⟩=some u0)(c1:w.cell? ⟨g,k*6+1,none⟩=some u1)(c2:w.cell? ⟨g,k*6+2,none⟩=some u2)(c3:w.cell? ⟨g,k*6+3,none⟩=some u3)(c4:w.cell? ⟨g,k*6+4,none⟩=some u4)(c5:w.cell? ⟨g,k*6+5,none⟩=some u5)(E:EntD) :
 (Instr.storeAt 287 (.pointer (some ⟨g,k*6,none⟩)) (.agg #[.int .i64 E.op,.int .i64 E.a,.int .i64 E.b,.int .i64 E.c,.int .i64 E.r,.bool E.full])).run prog w=.ok () (set6 w g k E):=by
 have s:=Zyl;have g0:∀ j,(⟨g,k*6,none⟩:Addr).add j=⟨g,k*6+j,none⟩:=fun j=>by unfold Addr.add;split<;>simp_all
 have g1:(Instr.sureAddr (Value.pointer (some ⟨g,k*6,none⟩))).run prog w=.ok ⟨g,k*6,none⟩ w:=rfl;cases hi:prog.info? 287 with
 | none=>rw[hi] at s;cases s
 | some i =>
   rw[hi] at s;simp only[Option.map_some,Option.some.injEq] at s;have fz:∀ (w':World) p v j,(w'.setCell p v).frozen? ⟨g,j,none⟩=w'.frozen? ⟨g,j,none⟩:=fun w' p v j=>World.frozen?_setCell _ _ _ _
   obtain⟨v1,e1⟩:=Zbg (p:=⟨g,k*6,none⟩) (v:=.int .i64 E.op) c1;obtain⟨v2,e2⟩:=Zbg (p:=⟨g,k*6,none⟩) (v:=.int .i64 E.op) c2;obtain⟨v2,e2⟩:=Zbg (p:=⟨g,k*6+1,none⟩) (v:=.int .i64 E.a) e2;obtain⟨v3,e3⟩:=Zbg (p:=⟨g,k*6,none⟩) (v:=.int .i64 E.op) c3;obtain⟨v3,e3⟩:=Zbg (p:=⟨g,k*6+1,none⟩) (v:=.int .i64 E.a) e3;obtain⟨v3,e3⟩:=Zbg (p:=⟨g,k*6+2,none⟩) (v:=.int .i64 E.b) e3;obtain⟨v4,e4⟩:=Zbg (p:=⟨g,k*6,none⟩) (v:=.int .i64 E.op) c4;obtain⟨v4,e4⟩:=Zbg (p:=⟨g,k*6+1,none⟩) (v:=.int .i64 E.a) e4;obtain⟨v4,e4⟩:=Zbg (p:=⟨g,k*6+2,none⟩) (v:=.int .i64 E.b) e4;obtain⟨v4,e4⟩:=Zbg (p:=⟨g,k*6+3,none⟩) (v:=.int .i64 E.c) e4;obtain⟨v5,e5⟩:=Zbg (p:=⟨g,k*6,none⟩) (v:=.int .i64 E.op) c5;obtain⟨v5,e5⟩:=Zbg (p:=⟨g,k*6+1,none⟩) (v:=.int .i64 E.a) e5;obtain⟨v5,e5⟩:=Zbg (p:=⟨g,k*6+2,none⟩) (v:=.int .i64 E.b) e5;obtain⟨v5,e5⟩:=Zbg (p:=⟨g,k*6+3,none⟩) (v:=.int .i64 E.c) e5;obtain⟨v5,e5⟩:=Zbg (p:=⟨g,k*6+4,none⟩) (v:=.int .i64 E.r) e5;have s0:=Zcz (P:=prog) (v:=.int .i64 E.op) c0 (f _) rfl;have s1:=Zcz (P:=prog) (v:=.int .i64 E.a) e1 (by rw[fz];exact f _) rfl;have s2:=Zcz (P:=prog) (v:=.int .i64 E.b) e2 (by rw[fz,fz];exact f _) rfl;have s3:=Zcz (P:=prog) (v:=.int .i64 E.c) e3 (by rw[fz,fz,fz];exact f _) rfl;have s4:=Zcz (P:=prog) (v:=.int .i64 E.r) e4 (by rw[fz,fz,fz,fz];exact f _) rfl;have s5:=Zcz (P:=prog) (v:=.bool E.full) e5 (by rw[fz,fz,fz,fz,fz];exact f _) rfl;simp only[Instr.storeAt,Sem.run_bind,g1,Result.andThen_ok];simp[storeVar,sizeOf,typeInfo,hi,s,Value.cells,storeCells,g0,s0,s1,s2,s3,s4,s5,set6]
theorem Ydc (xs:List Value)(k:Nat)(a b c d e f:Value)(h:k+6<=xs.length):(((((xs.set k a).set (k+1) b).set (k+2) c).set (k+3) d).set (k+4) e).set (k+5) f=xs.take k++[a,b,c,d,e,f]++xs.drop (k+6):=by
 apply List.ext_getElem?;intro i;simp only[List.getElem?_set,List.length_set]
 by_cases h0:i<k
 . rw[List.getElem?_append_left (by simp;omega),List.getElem?_append_left (by simp;omega),List.getElem?_take,if_pos h0];rw[if_neg (by omega),if_neg (by omega),if_neg (by omega),if_neg (by omega),if_neg (by omega),if_neg (by omega)]
 ·by_cases h1:i<k+6
  ·rw[List.getElem?_append_left (by simp;omega),List.getElem?_append_right (by simp;omega)];have hl:(xs.take k).length=k:=by simp;omega
   rw[hl];have:i=k\/i=k+1\/i=k+2\/i=k+3\/i=k+4\/i=k+5:=by omega
   rcases this with rfl|rfl|rfl|rfl|rfl|rfl<;>(simp;omega)
  . rw[if_neg (by omega),if_neg (by omega),if_neg (by omega),if_neg (by omega),if_neg (by omega),if_neg (by omega)];rw[List.getElem?_append_right (by simp;omega)];simp only[List.length_append,List.length_take,List.length_cons,List.length_nil,List.getElem?_drop];congr 1;omega
theorem Zyf {o:Own}{w:World}{g cap m:Nat}{l:List EntD}{k:Nat}(h:RowR o w .entries 287 6 (.slice (some ⟨g,0,none⟩) m cap) l.length (l.flatMap entV))(hk:k<l.length)(E:EntD) :
 RowR o (set6 w g k E) .entries 287 6 (.slice (some ⟨g,0,none⟩) m cap) l.length ((l.set k E).flatMap entV):=by
 have h6:=(((((h.stored (k*6) (.int .i64 E.op)).stored (k*6+1) (.int .i64 E.a)).stored (k*6+2) (.int .i64 E.b)).stored (k*6+3) (.int .i64 E.c)).stored (k*6+4) (.int .i64 E.r)).stored (k*6+5) (.bool E.full);have hl:(l.flatMap entV).length=l.length*6:=Zba entV 6 Zbv _;rw[Ydc _ _ _ _ _ _ _ _ (by rw[hl];omega)] at h6;rw[Znq entV 6 Zbv l k E hk];exact h6
theorem Zyk {w:World}{g k:Nat}{E:EntD}{b:Nat}(hb:b≠g):(set6 w g k E).heap[b]?=w.heap[b]?:=by
 unfold set6;rw[Zaf hb,Zaf hb,Zaf hb,Zaf hb,Zaf hb,Zaf hb]
theorem Ztb {R:Role->Prop}{o o':Own}{w0 w:World}{g k:Nat}{E:EntD}(h:Chg R o o' w0 w)(hg:o' g=some .entries)(hR:R .entries):Chg R o o' w0 (set6 w g k E) :=
 (((((h.setCell (p:=⟨g,k*6,none⟩) hg hR _).setCell (p:=⟨g,k*6+1,none⟩) hg hR _).setCell (p:=⟨g,k*6+2,none⟩) hg hR _).setCell (p:=⟨g,k*6+3,none⟩) hg hR _).setCell (p:=⟨g,k*6+4,none⟩) hg hR _).setCell (p:=⟨g,k*6+5,none⟩) hg hR _
theorem Zwk {F:Phi}{l:List EntD}(h:Zvh F l)(k:Nat){E:EntD}(hE:F E.op E.a E.b E.c E.r):Zvh F (l.set k E):=by
 intro i hi
 by_cases e:i=k/\k<l.length
 ·obtain⟨rfl,hk⟩:=e;have:Zer (l.set i E) i=E:=by simp[Zer,List.getD,hk]
  rw[this];exact hE
 ·have:Zer (l.set k E) i=Zer l i:=by
   simp only[Zer,List.getD,List.getElem?_set]
   by_cases e1:k=i
   ·rw[if_pos e1];have:¬ k<l.length:=fun h'=>e ⟨e1.symm,h'⟩
    rw[if_neg this];subst e1;rw[List.getElem?_eq_none (by omega)]
   . rw[if_neg e1]
  rw[this] at hi ⊢;exact h i hi
open Go.RowKit
section
variable {P:Program}{ops:Array Oper}{S:World->Prop}{Q:Exit->Act->World->Prop}{last:Bool}
theorem Zbw {o:Oper}{r:List (Option Oper×Bool)}{a:Act}{w:World}{f:FuncId}{args:Array Value}{R:Value->World->Prop}(hg:o.guard=none)
 (he:(execOp a.eval o).run P w=.ok (.enter f args) w) (hc:Calls P f args w fun e w'=>∃ v,e=.returned v/\S w'/\R v w')
 (h:∀ v w',S w'->R v w'->Zb5 P ops Q S last r (a.put o.dst v) w'):Zb5 P ops Q S last ((some o,true)::r) a w:=by
 have hw:Region.wanted o (yielded ops a.tmps)=true:=by simp[Region.wanted,hg]
 unfold Zb5;simp only[hw,if_true,Oper.wp,he,Oper.upon];exact hc.mono fun e w' ⟨v,h1,h2,h3⟩=>by subst h1;exact⟨.inr h2,h v w' h2 h3⟩
end
theorem Zpa (o:Own)(w:World)(hlt:Zah o w):RowR (Zcl o w.heap.size .entries) (w.alloc (.cells (madeCells #[.int .i64 0,.int .i64 0,.int .i64 0,.int .i64 0,.int .i64 0,.bool false] (4096*6)) 287)) .entries 287 6 (.slice (some ⟨w.heap.size,0,none⟩) 4096 4096) 4096 ((List.replicate 4096 ent0).flatMap entV):=by
 refine⟨by rw[Zba entV 6 Zbv,List.length_replicate],.inr ⟨w.heap.size,4096,_,rfl,Za8 _ _ _,heap_alloc_new w _,Nat.le_refl _,by decide,by rw[size_madeCells];exact Nat.le_refl _,?_⟩⟩;rw[Zjj,List.take_of_length_le];rw[Zba entV 6 Zbv,List.length_replicate];exact Nat.le_refl _
theorem Zme (F:Phi)(n:Nat):Zvh F (List.replicate n ent0):=by
 intro i hi;have:Zer (List.replicate n ent0) i=ent0:=by
  simp only[Zer,List.getD,List.getElem?_replicate];split<;>rfl
 rw[this] at hi;cases hi
theorem Zk4 (w:World):(Instr.makeSlice 175 (.int .i64 4096) (.int .i64 4096)).run prog w=.ok (.slice (some ⟨w.heap.size,0,none⟩) 4096 4096) (w.alloc (.cells (madeCells #[.int .i64 0,.int .i64 0,.int .i64 0,.int .i64 0,.int .i64 0,.bool false] (4096*6)) 287)):=by
 have s:=Zpk;cases hi:prog.info? 287 with
 | none=>rw[hi] at s;cases s
 | some i =>
   rw[hi] at s;simp only[Option.map_some,Option.some.injEq,Prod.mk.injEq] at s;obtain⟨hz,hs,hb⟩:=s;have:=run_make (P:=prog) w 175 287 i _ underlying175 hi hz .i64 .i64 4096 4096 (by decide) (by decide) (by rw[hb];decide) (by decide);rw[hs] at this;exact this
structure Zdj (o:Own)(w:World)(mb ge cap:Nat)(l:List EntD)(asked found:Int)(F:Phi):Prop where
 own:o mb=some .memo
 blk:w.heap[mb]?=some (.cells #[.int .i64 4096,.slice (some ⟨ge,0,none⟩) 4096 cap,.int .i64 asked,.int .i64 found] 177 (0,0))
 len:l.length=4096
 row:RowR o w .entries 287 6 (.slice (some ⟨ge,0,none⟩) 4096 cap) 4096 (l.flatMap entV)
 ok:Zvh F l
theorem Zdj.is {o:Own}{w:World}{mb ge cap:Nat}{l:List EntD}{asked found:Int}{F:Phi}(h:Zdj o w mb ge cap l asked found F):Zci o w mb F:=⟨h.own,_,_,_,h.blk,.inr ⟨ge,cap,l,rfl,h.len,h.row,h.ok⟩⟩
theorem Znx {o:Own}{w:World}{mb:Nat}{asked found:Int}{F:Phi}(hown:o mb=some .memo)(hlt:Zah o w)(hmb:w.heap[mb]?=some (.cells #[.int .i64 4096,.slice none 0 0,.int .i64 asked,.int .i64 found] 177 (0,0)))(W:World)
 (hW:W=(w.setCell ⟨mb,1,none⟩ (.slice (some ⟨w.heap.size,0,none⟩) 4096 4096)).alloc (.cells (madeCells #[.int .i64 0,.int .i64 0,.int .i64 0,.int .i64 0,.int .i64 0,.bool false] 24576) 287)) :
 ∃ o',Zdj o' W mb w.heap.size 4096 (List.replicate 4096 ent0) asked found F/\Chg (fun r=>r=.memo\/r=.entries) o o' w W/\Zah o' W:=by
 have g3:mb<w.heap.size:=hlt _ _ hown;obtain⟨w1,h1⟩:∃ w1,w1=w.setCell ⟨mb,1,none⟩ (.slice (some ⟨w.heap.size,0,none⟩) 4096 4096):=⟨_,rfl⟩;have hz:w1.heap.size=w.heap.size:=by rw[h1];simp[World.setCell]
 have g1:Chg (fun r=>r=.memo\/r=.entries) o o w w1:=by rw[h1];exact Chg.setCell (R:=fun r=>r=.memo\/r=.entries) (p:=⟨mb,1,none⟩) (Chg.refl _ o w) hown (.inl rfl) _
 have g0:Zah o w1:=hlt.mono g1.size;have g2:w1.heap[mb]?=some (.cells #[.int .i64 4096,.slice (some ⟨w.heap.size,0,none⟩) 4096 4096,.int .i64 asked,.int .i64 found] 177 (0,0)):=by rw[h1];exact Zac hmb _
 have hr:=Zpa o w1 g0;rw[<- h1] at hW;rw[hz] at hr;subst hW;refine⟨Zcl o w.heap.size .entries,⟨Zc3 hlt (Nat.le_refl _) hown,?_,List.length_replicate,hr,Zme F _⟩,?_,?_⟩
 . exact(Go.heap_alloc_old w1 _ (by omega)).trans g2
 . rw[<- hz];exact g1.allocR g0 _ (.inr rfl)
 . rw[<- hz];exact g0.allocR _ _
theorem Zdj.below {o:Own}{w w':World}{mb ge cap:Nat}{l:List EntD}{asked found:Int}{F:Phi}(h:Zdj o w mb ge cap l asked found F)(hlt:Zah o w)(hb:Below w.heap.size w w'):Zdj o w' mb ge cap l asked found F :=
 ⟨h.own,(hb.block mb (hlt _ _ h.own)).trans h.blk,h.len,h.row.below hlt hb,h.ok⟩
theorem Zmx {o:Own}{w:World}{mb ge cap:Nat}{l:List EntD}{asked found:Int}{F:Phi}(h:Zdj o w mb ge cap l asked found F)(op:Int)(a b c:Nat) :
 Calls prog 250 #[.pointer (some ⟨mb,0,none⟩),.agg #[.int .i64 op,.int .i64 a,.int .i64 b,.int .i64 c]] w.drew fun x w'=>∃ i,i<4096/\x=.returned (.pointer (some ⟨ge,i*6,none⟩))/\Below w.drew.heap.size w.drew w' :=
 Zp7 mb ge cap op a b c w.drew (cells4 (w:=w.drew) h.blk).2.1
theorem Zdj.stored {o:Own}{w:World}{mb ge cap:Nat}{l:List EntD}{asked found:Int}{F:Phi}(h:Zdj o w mb ge cap l asked found F){k:Nat}(hk:k<4096){E:EntD}(hE:F E.op E.a E.b E.c E.r):Zdj o (set6 w ge k E) mb ge cap (l.set k E) asked found F:=by
 have hg:=h.row.owner;have g0:mb≠ge:=fun e=>by subst e;have:=h.own;rw[hg] at this;cases this
 refine⟨h.own,(Zyk g0).trans h.blk,by rw[List.length_set];exact h.len,?_,Zwk h.ok k hE⟩;have hr:=h.row;rw[show 4096=l.length from h.len.symm] at hr;have:=Zyf (m:=l.length) hr (by rw[h.len];exact hk) E;rw[h.len] at this;exact this
theorem Yds (w:World)(a:Option Addr)(n c:Nat):(binOp .eql 175 (.slice a n c) (.slice none 0 0)).run prog w=.ok (.bool a.isNone) w:=by
 have hd:Op.maxDepth=9999+1:=rfl;have h:(Op.equal 175 (.slice a n c) (.slice none 0 0)).run prog w=.ok a.isNone w:=by
  unfold Op.equal;rw[hd];unfold Op.equalIn;simp only[Sem.run_bind,run_underlying underlying175,Result.andThen_ok];cases a<;>simp
 simp only[binOp];simp[h]
theorem Yaf (o:Own)(mb:Nat)(F:Phi)(op:Int)(a b c r:Nat)(w:World)(h:Zci o w mb F)(hlt:Zah o w)(hF:F op a b c r) :
 Calls prog 203 #[.pointer (some ⟨mb,0,none⟩),.int .i64 op,.int .i64 a,.int .i64 b,.int .i64 c,.int .i64 r] w fun x w'=>x=.returned (.tuple #[])/\∃ o',Zci o' w' mb F/\Chg (fun r=>r=.memo\/r=.entries) o o' w w'/\Zah o' w':=by
 obtain⟨ve,asked,found,gv,hv⟩:=h.ex;obtain⟨c0,c1,c2,c3,f0⟩:=cells4 gv;have lmb:mb<w.heap.size:=Zab c0;have gC:=Hd hlt;have gr:=Hd gv;have gc:=Hd h.own;have HV:=Hd hv;have HF:=Hd hF;have gB:=Hd Zk4;clear h hlt gv hv hF;rcases HV.out with rfl|⟨ge,cap,l,rfl,hl,gt,gx⟩
 ·have gD:=Zk4 w;have gq:(binOp .eql 175 (.slice none 0 0) (.slice none 0 0)).run prog w=.ok (.bool true) w:=Yds w none 0 0;have HM:=Hd (Znx (F:=F) gc.out gC.out gr.out)
  go_enter func203,ntmps203
  go_upto_region 3 with fail;obtain⟨W1,g5⟩:∃ W1,W1=(w.setCell ⟨mb,1,none⟩ (.slice (some ⟨w.heap.size,0,none⟩) 4096 4096)).alloc (.cells (madeCells #[.int .i64 0,.int .i64 0,.int .i64 0,.int .i64 0,.int .i64 0,.bool false] 24576) 287):=⟨_,rfl⟩;rw[<- g5];obtain⟨o1,gy,gA,gz⟩:=HM.out W1 g5;have g6:=Hd gy;have ga:=Hd gA;have g7:=Hd gz;clear gy gA gz g5 HM gD gq c0 c1 c2 c3 f0 lmb HV gr gc gB;obtain⟨d0,d1,d2,d3,g0⟩:=cells4 g6.out.blk;have lmb1:mb<W1.heap.size:=Zab d0;go_upto_region 4 with fail;obtain⟨bx,g9⟩:∃ bx,bx=W1.heap.size:=⟨_,rfl⟩;obtain⟨W2,g4⟩:∃ W2,W2=W1.alloc (.cells #[.int .i64 op,.int .i64 a,.int .i64 b,.int .i64 c] 283):=⟨_,rfl⟩;have g3:Below W1.heap.size W1 W2:=by rw[g4];exact Zae _ _
  have g8:W2.heap[bx]?=some (.cells #[.int .i64 op,.int .i64 a,.int .i64 b,.int .i64 c] 283 (0,0)):=by rw[g4,g9];exact heap_alloc_new W1 _
  rw[<- g4,<- g9];have gf:=g6.out.below g7.out g3;have gl:=ga.out.trans (Chg.of_below g3 (fun r=>r=.memo\/r=.entries) _);have gi:=g7.out.mono g3.size;have gn:=Hd gf;have gw:=Hd gl;have go:=Hd gi;have gp:=Hd g8;clear gf gl gi g3 g4 g9 g6 ga g7 d0 d1 d2 d3 g0 lmb1;obtain⟨k0,k1,k2,k3,fk⟩:=cells4 g8;clear g8;refine Zan (fun W:World=>W.cell? ⟨bx,0,none⟩=some (.int .i64 op)/\W.cell? ⟨bx,1,none⟩=some (.int .i64 a)/\W.cell? ⟨bx,2,none⟩=some (.int .i64 b)/\W.cell? ⟨bx,3,none⟩=some (.int .i64 c)) true 7
   [(0,false),(1,false),(3,false),(4,false),(5,false),(2,true),(6,false),(7,true)] (by kernel_rfl) (by kernel_rfl) ⟨k0,k1,k2,k3⟩ ?_
  simp only[planned,Zdd]
  iterate 5
   refine Zaj rfl ?_;apply Exists.intro;refine⟨fun w' hw=>?_,?_⟩
   . obtain⟨q0,q1,q2,q3⟩:=hw;go_simp;rfl
   simp only[Zai]
  refine Zbw (R:=fun v w'=>∃ i,i<4096/\v=.pointer (some ⟨w.heap.size,i*6,none⟩)/\Below W2.drew.heap.size W2.drew w') rfl (by go_simp) ((Zmx gn.out op a b c).mono (fun e w' he=>?_)) ?_
  . obtain⟨i,hi,rfl,hb⟩:=he;obtain⟨j0,j1,j2,j3,_⟩:=cells4 ((hb.block bx (Array.getElem?_eq_some_iff.1 gp.out).1).trans gp.out);exact⟨_,rfl,⟨j0,j1,j2,j3⟩,i,hi,rfl,hb⟩
  rintro v w3-⟨i,hi,rfl,g2⟩;simp only[Zai];have g2:Below W2.heap.size W2 w3:=(Zag W2 1).trans g2;have g1:=gn.out.below go.out g2;have gk:=gw.out.trans (Chg.of_below g2 (fun r=>r=.memo\/r=.entries) _);have gh:=go.out.mono g2.size;obtain⟨n0,n1,n2,n3,n4,n5⟩:=Znn g1.row g1.len hi
  iterate 1
   refine Zaj rfl ?_;apply Exists.intro;refine⟨fun w' hw=>?_,?_⟩
   . obtain⟨q0,q1,q2,q3⟩:=hw;go_simp;rfl
   simp only[Zai]
  refine Zdn rfl rfl (Zhh (fun j=>by have:=g1.row.frozen j;exact this) n0 n1 n2 n3 n4 n5 ⟨op,a,b,c,r,true⟩) ?_;simp only[Zai];have gd:=(g1.stored hi (E:=⟨op,a,b,c,r,true⟩) HF.out).is;have gj:=Ztb (k:=i) (E:=⟨op,a,b,c,r,true⟩) gk g1.row.owner (.inr rfl);have gg:Zah o1 (set6 w3 w.heap.size i ⟨op,a,b,c,r,true⟩):=gh.mono (by simp[set6,World.setCell]);obtain⟨WF,gm⟩:∃ WF,WF=set6 w3 w.heap.size i ⟨op,a,b,c,r,true⟩:=⟨_,rfl⟩;rw[<- gm] at gd gj gg ⊢;clear n0 n1 n2 n3 n4 n5 g1 gk gh g2 k0 k1 k2 k3 fk gm;go_wp2_with fail;refine bodyPost_end (results_none rfl _ _ _) rfl ?_;exact⟨rfl,o1,gd,gj,gg⟩
 ·have g6:Hid (Zdj o w mb ge cap l asked found F):=(Hd ⟨gc.out,gr.out,hl,gt,gx⟩);have gq:(binOp .eql 175 (.slice (some ⟨ge,0,none⟩) 4096 cap) (.slice none 0 0)).run prog w=.ok (.bool false) w:=Yds w _ _ _;clear hl gt gx
  go_enter func203,ntmps203
  go_upto_region 3 with fail;obtain⟨W1,g5⟩:∃ W1,W1=w:=⟨_,rfl⟩;have ga:Hid (Chg (fun r=>r=.memo\/r=.entries) o o w W1):=Hd (g5 ▸ Chg.refl _ _ _);have g7:Hid (Zah o W1):=Hd (g5 ▸ gC.out);rw[<- g5] at g6;rw[<- g5];obtain⟨o1,gu⟩:∃ o1,o1=o:=⟨_,rfl⟩;rw[<- gu] at g6 g7;have ga:Hid (Chg (fun r=>r=.memo\/r=.entries) o o1 w W1):=by rw[gu];exact ga
  clear g5 gu gq c0 c1 c2 c3 f0 lmb HV gr gc gB;obtain⟨d0,d1,d2,d3,g0⟩:=cells4 g6.out.blk;have lmb1:mb<W1.heap.size:=Zab d0;go_upto_region 4 with fail;obtain⟨bx,g9⟩:∃ bx,bx=W1.heap.size:=⟨_,rfl⟩;obtain⟨W2,g4⟩:∃ W2,W2=W1.alloc (.cells #[.int .i64 op,.int .i64 a,.int .i64 b,.int .i64 c] 283):=⟨_,rfl⟩;have g3:Below W1.heap.size W1 W2:=by rw[g4];exact Zae _ _
  have g8:W2.heap[bx]?=some (.cells #[.int .i64 op,.int .i64 a,.int .i64 b,.int .i64 c] 283 (0,0)):=by rw[g4,g9];exact heap_alloc_new W1 _
  rw[<- g4,<- g9];have gf:=g6.out.below g7.out g3;have gl:=ga.out.trans (Chg.of_below g3 (fun r=>r=.memo\/r=.entries) _);have gi:=g7.out.mono g3.size;have gn:=Hd gf;have gw:=Hd gl;have go:=Hd gi;have gp:=Hd g8;clear gf gl gi g3 g4 g9 g6 ga g7 d0 d1 d2 d3 g0 lmb1;obtain⟨k0,k1,k2,k3,fk⟩:=cells4 g8;clear g8;refine Zan (fun W:World=>W.cell? ⟨bx,0,none⟩=some (.int .i64 op)/\W.cell? ⟨bx,1,none⟩=some (.int .i64 a)/\W.cell? ⟨bx,2,none⟩=some (.int .i64 b)/\W.cell? ⟨bx,3,none⟩=some (.int .i64 c)) true 7
   [(0,false),(1,false),(3,false),(4,false),(5,false),(2,true),(6,false),(7,true)] (by kernel_rfl) (by kernel_rfl) ⟨k0,k1,k2,k3⟩ ?_
  simp only[planned,Zdd]
  iterate 5
   refine Zaj rfl ?_;apply Exists.intro;refine⟨fun w' hw=>?_,?_⟩
   . obtain⟨q0,q1,q2,q3⟩:=hw;go_simp;rfl
   simp only[Zai]
  refine Zbw (R:=fun v w'=>∃ i,i<4096/\v=.pointer (some ⟨ge,i*6,none⟩)/\Below W2.drew.heap.size W2.drew w') rfl (by go_simp) ((Zmx gn.out op a b c).mono (fun e w' he=>?_)) ?_
  . obtain⟨i,hi,rfl,hb⟩:=he;obtain⟨j0,j1,j2,j3,_⟩:=cells4 ((hb.block bx (Array.getElem?_eq_some_iff.1 gp.out).1).trans gp.out);exact⟨_,rfl,⟨j0,j1,j2,j3⟩,i,hi,rfl,hb⟩
  rintro v w3-⟨i,hi,rfl,g2⟩;simp only[Zai];have g2:Below W2.heap.size W2 w3:=(Zag W2 1).trans g2;have g1:=gn.out.below go.out g2;have gk:=gw.out.trans (Chg.of_below g2 (fun r=>r=.memo\/r=.entries) _);have gh:=go.out.mono g2.size;obtain⟨n0,n1,n2,n3,n4,n5⟩:=Znn g1.row g1.len hi
  iterate 1
   refine Zaj rfl ?_;apply Exists.intro;refine⟨fun w' hw=>?_,?_⟩
   . obtain⟨q0,q1,q2,q3⟩:=hw;go_simp;rfl
   simp only[Zai]
  refine Zdn rfl rfl (Zhh (fun j=>by have:=g1.row.frozen j;exact this) n0 n1 n2 n3 n4 n5 ⟨op,a,b,c,r,true⟩) ?_;simp only[Zai];have gd:=(g1.stored hi (E:=⟨op,a,b,c,r,true⟩) HF.out).is;have gj:=Ztb (k:=i) (E:=⟨op,a,b,c,r,true⟩) gk g1.row.owner (.inr rfl);have gg:Zah o1 (set6 w3 ge i ⟨op,a,b,c,r,true⟩):=gh.mono (by simp[set6,World.setCell]);obtain⟨WF,gm⟩:∃ WF,WF=set6 w3 ge i ⟨op,a,b,c,r,true⟩:=⟨_,rfl⟩;rw[<- gm] at gd gj gg ⊢;clear n0 n1 n2 n3 n4 n5 g1 gk gh g2 k0 k1 k2 k3 fk gm;go_wp2_with fail;refine bodyPost_end (results_none rfl _ _ _) rfl ?_;exact⟨rfl,o1,gd,gj,gg⟩
open Go.RowKit
theorem RowR.setCells {o:Own}{r:Role}{e:TypeId}{size n g m cap:Nat}(ys:List Value):∀ (w:World) (k:Nat) (xs:List Value),RowR o w r e size (.slice (some ⟨g,0,none⟩) m cap) n xs->k+ys.length<=xs.length ->
 RowR o (w.setCells g k ys) r e size (.slice (some ⟨g,0,none⟩) m cap) n (xs.take k++ys++xs.drop (k+ys.length)):=by
 induction ys with
 | nil=>intro w k xs h _;simpa [World.setCells] using h
 | cons y ys ih =>
   intro w k xs h hl;simp only[List.length_cons] at hl;have h1:=ih (w.setCell ⟨g,k,none⟩ y) (k+1) (xs.set k y) (h.stored k y) (by simp;omega);have e:(xs.set k y).take (k+1)++ys++(xs.set k y).drop (k+1+ys.length)=xs.take k++(y::ys)++xs.drop (k+(y::ys).length):=by
    have e1:(xs.set k y).take (k+1)=xs.take k++[y]:=by
     rw[List.set_eq_take_append_cons_drop,if_pos (by omega),List.take_append];simp;have:min k xs.length=k:=by omega
     rw[this];simp
     exact List.take_of_length_le (by simp;omega)
    have e2:(xs.set k y).drop (k+1+ys.length)=xs.drop (k+1+ys.length):=by
     rw[List.drop_set];rw[if_pos (by omega)]
    rw[e1,e2];simp[Nat.add_assoc,Nat.add_comm 1 ys.length]
   rw[e] at h1;exact h1
theorem Chg.setCells {R:Role->Prop}{o o':Own}{w0:World}{g:Nat}{r:Role}(hg:o' g=some r)(hR:R r)(ys:List Value):∀ (w:World) (k:Nat),Chg R o o' w0 w->Chg R o o' w0 (w.setCells g k ys):=by
 induction ys with
 | nil=>intro w k h;exact h
 | cons y ys ih=>intro w k h;exact ih _ _ (h.setCell (p:=⟨g,k,none⟩) hg hR y)
theorem Zjt {g b:Nat}(hb:b≠g)(ys:List Value):∀ (w:World) (k:Nat),(w.setCells g k ys).heap[b]?=w.heap[b]?:=by
 induction ys with
 | nil=>intro w k;rfl
 | cons y ys ih=>intro w k;rw[World.setCells,ih];exact Zaf (p:=⟨g,k,none⟩) hb y
theorem Ydl (w:World):(zeroValue 287).run prog w=.ok (.agg #[.int .i64 0,.int .i64 0,.int .i64 0,.int .i64 0,.int .i64 0,.bool false]) w:=by
 have s:=Zpk;cases hi:prog.info? 287 with
 | none=>rw[hi] at s;cases s
 | some i =>
   rw[hi] at s;simp only[Option.map_some,Option.some.injEq,Prod.mk.injEq] at s;obtain⟨hz,hs,hb⟩:=s;simp[zeroValue,typeInfo,hi,hz]
theorem Ybc (n:Nat):(Builtin.zeroCells (Value.cells (.agg #[.int .i64 0,.int .i64 0,.int .i64 0,.int .i64 0,.int .i64 0,.bool false])) n).toList=(List.replicate n ent0).flatMap entV:=Zjj n
theorem Zob (w:World)(ty:TypeId)(ge cap n:Nat)(hc:∀ j,j<(n+1)*6->(w.cell? ⟨ge,j,none⟩).isSome=true)(hf:∀ j,w.frozen? ⟨ge,j,none⟩=false) :
 (Builtin.clear_ #[175] ty #[.slice (some ⟨ge,0,none⟩) (n+1) cap]).run prog w=.ok (.tuple #[]) (w.setCells ge 0 ((List.replicate (n+1) ent0).flatMap entV)):=by
 have g0:((List.replicate (n+1) ent0).flatMap entV).length=(n+1)*6:=by rw[Zba entV 6 Zbv,List.length_replicate]
 have g1:=run_storeCells_cells (P:=prog) ge 0 ((List.replicate (n+1) ent0).flatMap entV) 0 w (fun j hj=>by rw[g0] at hj;simpa using hc j hj) (fun j _=>hf _) (fun v hv=>by
  rw[List.mem_flatMap] at hv;obtain⟨E,_,hv⟩:=hv;simp only[entV,List.mem_cons,List.not_mem_nil,or_false] at hv;rcases hv with rfl|rfl|rfl|rfl|rfl|rfl<;>rfl)
 unfold Builtin.clear_;simp only[List.getElem?_toArray,List.getElem?_cons_zero,Sem.run_bind,run_underlying underlying175,Result.andThen_ok,Ydl,Ybc,g1];rfl
theorem Zqj (w:World)(ty:TypeId)(ge cap:Nat)(hc:∀ j,j<4096*6->(w.cell? ⟨ge,j,none⟩).isSome=true)(hf:∀ j,w.frozen? ⟨ge,j,none⟩=false) :
 (Builtin.clear_ #[175] ty #[.slice (some ⟨ge,0,none⟩) 4096 cap]).run prog w=.ok (.tuple #[]) (w.setCells ge 0 ((List.replicate 4096 ent0).flatMap entV)):=Zob w ty ge cap 4095 hc hf
theorem Zoc (w:World)(ty:TypeId):(Builtin.clear_ #[175] ty #[.slice none 0 0]).run prog w=.ok (.tuple #[]) w:=by
 unfold Builtin.clear_;simp only[List.getElem?_toArray,List.getElem?_cons_zero,Sem.run_bind,run_underlying underlying175,Result.andThen_ok];rfl
theorem Ztv (o:Own)(mb:Nat)(F G:Phi)(w:World)(h:Zci o w mb F)(hlt:Zah o w) :
 Calls prog 159 #[.pointer (some ⟨mb,0,none⟩)] w fun x w'=>x=.returned (.tuple #[])/\Zci o w' mb G/\Chg (· = .entries) o o w w'/\Zah o w':=by
 obtain⟨ve,asked,found,g3,hv⟩:=h.ex;have g1:=h.own;obtain⟨c0,c1,c2,c3,f0⟩:=cells4 g3;rcases hv with rfl|⟨ge,cap,l,rfl,hl,g0,g8⟩
 ·have hr:=Zoc w 0;have HF:=Hd (show Zci o w mb G from ⟨h.own,_,_,_,g3,.inl rfl⟩);have HL:=Hd hlt;clear h hlt g3 g1
  go_enter func159,ntmps159
  go_wp2_with fail;refine bodyPost_end (results_none rfl _ _ _) rfl ?_;exact⟨rfl,HF.out,Chg.refl _ _ _,HL.out⟩
 ·have hg:=g0.owner;have g7:mb≠ge:=fun e=>by subst e;rw[hg] at g1;cases g1
  have g2:(l.flatMap entV).length=4096*6:=by rw[Zba entV 6 Zbv,hl]
  have hr:=Zqj w 0 ge cap (fun j hj=>by rw[g0.cell j (by rw[g2];exact hj),List.getElem?_eq_getElem (by rw[g2];exact hj)];rfl) g0.frozen;obtain⟨W,hW⟩:∃ W,W=w.setCells ge 0 ((List.replicate 4096 ent0).flatMap entV):=⟨_,rfl⟩;rw[<- hW] at hr;have g5:((List.replicate 4096 ent0).flatMap entV).length=4096*6:=by rw[Zba entV 6 Zbv,List.length_replicate]
  have g4:RowR o W .entries 287 6 (.slice (some ⟨ge,0,none⟩) 4096 cap) 4096 ((List.replicate 4096 ent0).flatMap entV):=by
   have:=RowR.setCells ((List.replicate 4096 ent0).flatMap entV) w 0 _ g0 (by rw[g5,g2];omega);rw[List.take_zero,List.nil_append,Nat.zero_add,List.drop_of_length_le (by rw[g5,g2];exact Nat.le_refl _),List.append_nil,<- hW] at this;exact this
  have g6:Chg (· = .entries) o o w W:=by rw[hW];exact Chg.setCells (R:=(· = .entries)) hg rfl _ _ _ (Chg.refl _ _ _)
  have HF:=Hd (show Zci o W mb G from ⟨g1,_,_,_,(by rw[hW];exact(Zjt g7 _ _ _).trans g3),.inr ⟨ge,cap,_,rfl,List.length_replicate,g4,Zme G _⟩⟩);have HL:=Hd (hlt.mono g6.size);have HC:=Hd g6;clear h hlt g3 g1 hl g0 g8 hg g2 g5 g4 g6 hW g7
  go_enter func159,ntmps159
  go_wp2_with fail;refine bodyPost_end (results_none rfl _ _ _) rfl ?_;exact⟨rfl,HF.out,HC.out,HL.out⟩
open Go.RowKit
theorem Zz5 (o:Own)(F:Phi)(w:World)(hlt:Zah o w) :
 Calls prog 92 #[.int .i64 4096] w fun x w'=>∃ mb o',x=.returned (.pointer (some ⟨mb,0,none⟩))/\Zci o' w' mb F/\Chg (· = .memo) o o' w w'/\Zah o' w'/\w.heap.size<=mb:=by
 have HL:=Hd hlt;clear hlt
 go_enter func92,ntmps92
 go_wp2_with fail;go_ret;exact⟨w.heap.size,Zcl o w.heap.size .memo,rfl,⟨Za8 _ _ _,_,_,_,heap_alloc_new w _,.inl rfl⟩,(Chg.refl _ o w).allocR HL.out _ rfl,HL.out.allocR _ _,Nat.le_refl _⟩
theorem Zem {P:Program}(w:World)(T:TypeId):(Instr.makeMap T none).run P w=.ok (.map (some w.heap.size)) (w.alloc (.map #[] 0)):=rfl
theorem Zz7 (o:Own)(v:Nat)(w:World)(hlt:Zah o w) :
 Calls prog 141 #[] w fun x w'=>∃ t o',x=.returned (.pointer (some ⟨t,0,none⟩))/\Zc9 o' w' v t (fun _=>none)/\Chg (fun r=>r=.tab v\/r=.tmap v) o o' w w'/\Zah o' w'/\w.heap.size<=t:=by
 have HL:=Hd hlt;have hm:=Zem (P:=prog) w 228;clear hlt
 go_enter func141,ntmps141
 go_wp2_with fail;go_ret;have g0:=HL.out.allocR (.map #[] 0) (.tmap v);have g4:=((Chg.refl (fun r=>r=.tab v\/r=.tmap v) o w).allocR (r:=.tmap v) HL.out (.map #[] 0) (.inr rfl));have g2:=g0.allocR (.cells #[.map (some w.heap.size)] 230) (.tab v);have g3:=g4.allocR (r:=.tab v) g0 (.cells #[.map (some w.heap.size)] 230) (.inl rfl);have hz:(w.alloc (.map #[] 0)).heap.size=w.heap.size+1:=by simp
 have g1:w.heap.size<(w.alloc (.map #[] 0)).heap.size:=by rw[hz];omega
 refine⟨w.heap.size+1,_,rfl,⟨by rw[<- hz];exact Za8 _ _ _,w.heap.size,[],by rw[<- hz];exact heap_alloc_new _ _,Zc3 g0 (Nat.le_refl _) (Za8 _ _ _),⟨⟨#[],0,(Go.heap_alloc_old _ _ g1).trans (heap_alloc_new w _),rfl,by simp,by simp⟩,by simp⟩,fun k=>rfl⟩,g3,g2,by omega⟩
open Go.RowKit
section
variable {P:Program}{S:World->Prop}{Q:Exit->Act->World->Prop}{m:Nat}
structure Left (P:Program)(l:List Oper)(Q:Exit->Act->World->Prop)(S:World->Prop)(m f:Nat)(L:Array Bool)(a:Act)(w:World):Prop where
 goes:Closed l.toArray L->S w->Zlm P l.toArray (NP Q) S m f L a w
theorem Ze4 {id:Nat}{a:Act}{w:World}{l:List Oper}(S:World->Prop)(m:Nat)(hm:P.follows .mixedOrders=true)(hS:S w.drew)
 (h:Left P l Q S m l.length (Array.replicate l.toArray.size false) a w.drew):(Code.region id l.toArray true).wp P Q a w :=
 Ztm (wp_region_any hm (Zg9 _ _ _ _ (h.goes (Zf8 _) hS)))
theorem Zw9 {l:List Oper}{f:Nat}{L:Array Bool}{a:Act}{w:World}(i:Nat)(o:Oper)(v:Value)(hi:l[i]?=some o)
 (hB:(Region.noSelect l.toArray&&(Region.ready .any l.toArray L).contains i&&Region.free .any l.toArray L i&&(decide (l.toArray.size<=m)||reaches l.toArray l.toArray.size i m))=true)
 (hy:∀ w,S w->YieldsIf P l.toArray S o v a) (h:Left P l Q S m f (L.setIfInBounds i true) (a.put o.dst v) w):Left P l Q S m (f+1) L a w:=by
 refine⟨fun hc hS=>?_⟩;simp only[Bool.and_eq_true] at hB;obtain⟨⟨⟨hs,hr⟩,hf⟩,hm⟩:=hB;have g1:l.toArray[i]?=some o:=by simpa using hi
 have g0:i∈Region.ready .any l.toArray L:=by simpa using hr
 exact Zgr g1 hs (fun _ _ _ _ _ h=>h) hm f L a w hc (Region.free_spec g1 hf) g0 (hy w hS) hS (h.goes (hc.set g0) hS)
theorem Zbj {l:List Oper}{f:Nat}{L:Array Bool}{a:Act}{w:World}(i:Nat){o:Oper}(hi:l[i]?=some o)(hg:o.guard=none)
 (hB:(Region.noSelect l.toArray&&(Region.ready .any l.toArray L).contains i&&Region.free .any l.toArray L i&&(decide (l.toArray.size<=m)||reaches l.toArray l.toArray.size i m))=true)
 (h:∃ v,(∀ w,S w->(execOp a.eval o).run P w=.ok (.value v) w)/\Left P l Q S m f (L.setIfInBounds i true) (a.put o.dst v) w):Left P l Q S m (f+1) L a w:=by
 obtain⟨v,h1,h2⟩:=h;exact Zw9 i o v hi hB (fun w _=>.inl ⟨by simp[Region.wanted,hg],h1⟩) h2
theorem Zd3 {l:List Oper}{f:Nat}{L:Array Bool}{a:Act}{w:World}(is:List Nat)(hr:(decide (Region.ready .any l.toArray L=is) && !is.isEmpty)=true)
 (h:∀ i∈is,S w->∀ o,l[i]?=some o->Region.wanted o (yielded l.toArray a.tmps)=true/\o.wp P a w (fun a' w'=>S w'/\Left P l Q S m f (L.setIfInBounds i true) a' w') (NP Q)):Left P l Q S m (f+1) L a w:=by
 refine⟨fun hc hS=>?_⟩;simp only[Bool.and_eq_true,decide_eq_true_eq] at hr;obtain⟨hr,g1⟩:=hr;refine⟨fun h0=>(by rw[h0] at hr;subst hr;simp at g1),fun i hi=>?_⟩;have g2:i∈is:=by rw[<- hr];exact hi
 obtain⟨_,o,ho,_⟩:=mem_ready.1 hi;obtain⟨hw,g0⟩:=h i g2 hS o (by simpa using ho);unfold wpOp;rw[ho];simp only[hw,if_true];left;refine Oper.wp_mono ?_ g0;intro a' w' ⟨h1,h2⟩;exact⟨.inr h1,h2.goes (hc.set hi) h1⟩
theorem Zjz {l:List Oper}{L:Array Bool}{a:Act}{w:World}(hr:(Region.ready .any l.toArray L).isEmpty=true)(h:Q .normal a w):Left P l Q S m 0 L a w :=
 ⟨fun _ _=>⟨by simpa [List.isEmpty_iff] using hr,h⟩⟩
theorem Zcw {o:Oper}{a:Act}{w w':World}{v:Value}{K:Act->World->Prop}{Q:Exit->Act->World->Prop}(he:(execOp a.eval o).run P w=.ok (.value v) w')(h:K (a.put o.dst v) w'):o.wp P a w K Q:=by
 unfold Oper.wp;rw[he];exact h
end
open Go.RowKit
def pool0 (room:Nat):Zal:=⟨room,[rn0],[false],[],0⟩
abbrev Zbl:Obj:=.cells #[.int .i64 0,.int .i64 0,.int .i64 0,.int .i64 0,.int .i64 0] 254
abbrev Zbm:Obj:=.cells #[.bool false] 4
theorem Zs3 {o:Own}{w:World}{pb gs gt room:Nat}(hr:room<=1048576)(hop:o pb=some .pool)(hos:o gs=some .slots)(hot:o gt=some .taken)
 (hpb:w.heap[pb]?=some (.cells #[.int .i64 room,.slice (some ⟨gs,0,none⟩) 1 1,.slice (some ⟨gt,0,none⟩) 1 1,.slice none 0 0,.int .i64 0] 227 (0,0)))
 (hs:w.heap[gs]?=some Zbl) (ht:w.heap[gt]?=some Zbm):Zaq o w pb (pool0 room):=by
 refine⟨hop,⟨_,_,_,hpb,⟨rfl,.inr ⟨gs,1,_,rfl,hos,hs,Nat.le_refl _,by decide,by decide,rfl⟩⟩,⟨rfl,.inr ⟨gt,1,_,rfl,hot,ht,Nat.le_refl _,by decide,by decide,rfl⟩⟩,RowR.nil _ _ _ _ _⟩,rfl,hr,by simp[pool0],rfl,by simp[pool0],?_,rfl,by simp[pool0],by simp[pool0],?_⟩
 ·intro i hi;have:(pool0 room).tk i=false:=by
   cases i<;>rfl
  rw[this] at hi;cases hi
 . simp[pool0,Zas,Zal.tk]
theorem Zuh:madeCells (Value.cells (.agg #[.int .i64 0,.int .i64 0,.int .i64 0,.int .i64 0,.int .i64 0])) (Int.toNat 1*5)=#[.int .i64 0,.int .i64 0,.int .i64 0,.int .i64 0,.int .i64 0]:=by kernel_rfl
theorem Zui:madeCells (Value.cells (.bool false)) (Int.toNat 1*1)=#[.bool false]:=by kernel_rfl
theorem Zod (w:World):(Instr.makeSlice 225 (.int .i64 1) (.int .i64 1)).run prog w=.ok (.slice (some ⟨w.heap.size,0,none⟩) 1 1) (w.alloc Zbl):=by
 have s:=Zjy;cases hi:prog.info? 254 with
 | none=>rw[hi] at s;cases s
 | some i =>
   rw[hi] at s;simp only[Option.map_some,Option.some.injEq,Prod.mk.injEq] at s;obtain⟨hz,hs,hb⟩:=s;have:=run_make (P:=prog) w 225 254 i _ underlying225 hi hz .i64 .i64 1 1 (by decide) (by decide) (by rw[hb];decide) (by decide);rw[hs,Zuh] at this;exact this
theorem Zoe (w:World):(Instr.makeSlice 90 (.int .i64 1) (.int .i64 1)).run prog w=.ok (.slice (some ⟨w.heap.size,0,none⟩) 1 1) (w.alloc Zbm):=by
 have s:=Znu;cases hi:prog.info? 4 with
 | none=>rw[hi] at s;cases s
 | some i =>
   rw[hi] at s;simp only[Option.map_some,Option.some.injEq,Prod.mk.injEq] at s;obtain⟨hz,hs,hb⟩:=s;have:=run_make (P:=prog) w 90 4 i _ underlying90 hi hz .i64 .i64 1 1 (by decide) (by decide) (by rw[hb];decide) (by decide);rw[hs,Zui] at this;exact this
abbrev NewR (r:Role):Prop:=r=.pool\/r=.slots\/r=.taken
theorem made2 {o:Own}{w:World}(hlt:Zah o w)(A B C:Obj)(ra rb:Role)(h1:NewR ra)(h2:NewR rb) :
 ∃ o',o' w.heap.size=some ra/\o' (w.heap.size+1)=some rb/\o' (w.heap.size+2)=some .pool/\Chg NewR o o' w (((w.alloc A).alloc B).alloc C)/\Zah o' (((w.alloc A).alloc B).alloc C) /\
  (((w.alloc A).alloc B).alloc C).heap[w.heap.size]?=some A/\(((w.alloc A).alloc B).alloc C).heap[w.heap.size+1]?=some B/\(((w.alloc A).alloc B).alloc C).heap[w.heap.size+2]?=some C:=by
 have z1:(w.alloc A).heap.size=w.heap.size+1:=by simp
 have z2:((w.alloc A).alloc B).heap.size=w.heap.size+2:=by simp
 have l1:=hlt.allocR A ra;have c1:=(Chg.refl NewR o w).allocR hlt A h1;have l2:=l1.allocR B rb;have c2:=c1.allocR l1 B h2;have l3:=l2.allocR C .pool;have c3:=c2.allocR l2 C (show NewR .pool from .inl rfl);refine⟨_,?_,?_,?_,c3,l3,?_,?_,?_⟩
 . exact Zc3 l2 (Nat.le_refl _) (Zc3 l1 (Nat.le_refl _) (Za8 _ _ _))
 . rw[<- z1];exact Zc3 l2 (Nat.le_refl _) (Za8 _ _ _)
 . rw[<- z2];exact Za8 _ _ _
 . rw[Go.heap_alloc_old _ _ (by omega),Go.heap_alloc_old _ _ (by omega)];exact heap_alloc_new w A
 . rw[Go.heap_alloc_old _ _ (by omega),<- z1];exact heap_alloc_new _ B
 . rw[<- z2];exact heap_alloc_new _ C
theorem Zz6 (o:Own)(room:Nat)(w:World)(hlt:Zah o w)(h1:1<=room)(h2:room<=1048576) :
 Calls prog 139 #[.int .i64 room] w fun x w'=>∃ pb o',x=.returned (.tuple #[.pointer (some ⟨pb,0,none⟩),.int .i64 0])/\Zaq o' w' pb (pool0 room)/\Chg NewR o o' w w'/\Zah o' w'/\w.heap.size<=pb:=by
 have HL:=Hd hlt;have b1:(1:Int)<=room:=by omega
 have b2:(room:Int)<=1048576:=by omega
 have g2:=Hd Zod;have g1:=Hd Zoe;clear hlt
 go_enter func139,ntmps139
 go_upto_region 3 with fail;refine Ze4 (fun W=>True) 7 (by kernel_rfl) trivial ?_;refine Zbj 0 rfl rfl (by kernel_rfl) ?_;apply Exists.intro;refine⟨fun w' hw=>?_,?_⟩
 . go_simp;rfl
 simp only[Zai];refine Zd3 [1,2] (by kernel_rfl) (fun i hi hS o ho=>?_);simp only[Zls] at hi;rcases hi with rfl|rfl
 ·simp only[Zkg] at ho;subst ho;refine⟨rfl,?_⟩;have hm:=g2.out w.drew;rw[show w.drew.heap.size=w.heap.size from rfl] at hm;refine Zcw (v:=.slice (some ⟨w.heap.size,0,none⟩) 1 1) (w':=w.drew.alloc Zbl) (by go_simp) ⟨trivial,?_⟩;simp only[Zai];refine Zd3 [2] (by kernel_rfl) (fun i hi hS o ho=>?_);simp only[Zls] at hi;subst hi;simp only[Zkg] at ho;subst ho;refine⟨rfl,?_⟩;have hm:(Instr.makeSlice 90 (.int .i64 1) (.int .i64 1)).run prog (w.alloc Zbl).drew=.ok (.slice (some ⟨w.heap.size+1,0,none⟩) 1 1) ((w.alloc Zbl).alloc Zbm).drew:=by
   have:=g1.out (w.alloc Zbl).drew;rw[show (w.alloc Zbl).drew.heap.size=w.heap.size+1 from World.size_alloc w _] at this;exact this
  refine Zcw (v:=.slice (some ⟨w.heap.size+1,0,none⟩) 1 1) (w':=((w.alloc Zbl).alloc Zbm).drew) (by go_simp) ⟨trivial,?_⟩;simp only[Zai];refine Zbj 3 rfl rfl (by kernel_rfl) ?_;apply Exists.intro;refine⟨fun w' hw=>?_,?_⟩
  . go_simp;rfl
  simp only[Zai];refine Zd3 [4] (by kernel_rfl) (fun i hi hS o ho=>?_);simp only[Zls] at hi;subst hi;simp only[Zkg] at ho;subst ho;refine⟨rfl,?_⟩;have hz:((w.alloc Zbl).alloc Zbm).heap.size=w.heap.size+2:=by simp
  refine Zcw (v:=.pointer (some ⟨w.heap.size+2,0,none⟩)) (w':=(((w.alloc Zbl).alloc Zbm).alloc (.cells #[.int .i64 room,.slice (some ⟨w.heap.size,0,none⟩) 1 1,.slice (some ⟨(w.heap.size+1),0,none⟩) 1 1,.slice none 0 0,.int .i64 0] 227)).drew) (by go_simp) ⟨trivial,?_⟩;simp only[Zai];refine Zbj 5 rfl rfl (by kernel_rfl) ?_;apply Exists.intro;refine⟨fun w' hw=>?_,?_⟩
  . go_simp;rfl
  simp only[Zai];refine Zbj 6 rfl rfl (by kernel_rfl) ?_;apply Exists.intro;refine⟨fun w' hw=>?_,?_⟩
  . go_simp;rfl
  simp only[Zai];refine Zjz (by kernel_rfl) ?_;obtain⟨o',q1,q2,q3,q4,q5,q6,q7,q8⟩:=made2 HL.out Zbl Zbm (.cells #[.int .i64 room,.slice (some ⟨w.heap.size,0,none⟩) 1 1,.slice (some ⟨(w.heap.size+1),0,none⟩) 1 1,.slice none 0 0,.int .i64 0] 227) .slots .taken (.inr (.inl rfl)) (.inr (.inr rfl));have g0:Zaq o' (((w.alloc Zbl).alloc Zbm).alloc (.cells #[.int .i64 room,.slice (some ⟨w.heap.size,0,none⟩) 1 1,.slice (some ⟨(w.heap.size+1),0,none⟩) 1 1,.slice none 0 0,.int .i64 0] 227)).drew (w.heap.size+2) (pool0 room):=Zs3 h2 q3 q1 q2 q8 q6 q7;have q4':=q4.drew;have q5':Zah o' (((w.alloc Zbl).alloc Zbm).alloc (.cells #[.int .i64 room,.slice (some ⟨w.heap.size,0,none⟩) 1 1,.slice (some ⟨(w.heap.size+1),0,none⟩) 1 1,.slice none 0 0,.int .i64 0] 227)).drew:=q5;clear q1 q2 q3 q4 q5 q6 q7 q8 hm hz;go_wp2_with fail
  go_ret2
  exact⟨w.heap.size+2,o',rfl,g0,q4',q5',by omega⟩
 ·simp only[Zkg] at ho;subst ho;refine⟨rfl,?_⟩;have hm:=g1.out w.drew;rw[show w.drew.heap.size=w.heap.size from rfl] at hm;refine Zcw (v:=.slice (some ⟨w.heap.size,0,none⟩) 1 1) (w':=w.drew.alloc Zbm) (by go_simp) ⟨trivial,?_⟩;simp only[Zai];refine Zd3 [1] (by kernel_rfl) (fun i hi hS o ho=>?_);simp only[Zls] at hi;subst hi;simp only[Zkg] at ho;subst ho;refine⟨rfl,?_⟩;have hm:(Instr.makeSlice 225 (.int .i64 1) (.int .i64 1)).run prog (w.alloc Zbm).drew=.ok (.slice (some ⟨w.heap.size+1,0,none⟩) 1 1) ((w.alloc Zbm).alloc Zbl).drew:=by
   have:=g2.out (w.alloc Zbm).drew;rw[show (w.alloc Zbm).drew.heap.size=w.heap.size+1 from World.size_alloc w _] at this;exact this
  refine Zcw (v:=.slice (some ⟨w.heap.size+1,0,none⟩) 1 1) (w':=((w.alloc Zbm).alloc Zbl).drew) (by go_simp) ⟨trivial,?_⟩;simp only[Zai];refine Zbj 3 rfl rfl (by kernel_rfl) ?_;apply Exists.intro;refine⟨fun w' hw=>?_,?_⟩
  . go_simp;rfl
  simp only[Zai];refine Zd3 [4] (by kernel_rfl) (fun i hi hS o ho=>?_);simp only[Zls] at hi;subst hi;simp only[Zkg] at ho;subst ho;refine⟨rfl,?_⟩;have hz:((w.alloc Zbm).alloc Zbl).heap.size=w.heap.size+2:=by simp
  refine Zcw (v:=.pointer (some ⟨w.heap.size+2,0,none⟩)) (w':=(((w.alloc Zbm).alloc Zbl).alloc (.cells #[.int .i64 room,.slice (some ⟨(w.heap.size+1),0,none⟩) 1 1,.slice (some ⟨w.heap.size,0,none⟩) 1 1,.slice none 0 0,.int .i64 0] 227)).drew) (by go_simp) ⟨trivial,?_⟩;simp only[Zai];refine Zbj 5 rfl rfl (by kernel_rfl) ?_;apply Exists.intro;refine⟨fun w' hw=>?_,?_⟩
  . go_simp;rfl
  simp only[Zai];refine Zbj 6 rfl rfl (by kernel_rfl) ?_;apply Exists.intro;refine⟨fun w' hw=>?_,?_⟩
  . go_simp;rfl
  simp only[Zai];refine Zjz (by kernel_rfl) ?_;obtain⟨o',q1,q2,q3,q4,q5,q6,q7,q8⟩:=made2 HL.out Zbm Zbl (.cells #[.int .i64 room,.slice (some ⟨(w.heap.size+1),0,none⟩) 1 1,.slice (some ⟨w.heap.size,0,none⟩) 1 1,.slice none 0 0,.int .i64 0] 227) .taken .slots (.inr (.inr rfl)) (.inr (.inl rfl));have g0:Zaq o' (((w.alloc Zbm).alloc Zbl).alloc (.cells #[.int .i64 room,.slice (some ⟨(w.heap.size+1),0,none⟩) 1 1,.slice (some ⟨w.heap.size,0,none⟩) 1 1,.slice none 0 0,.int .i64 0] 227)).drew (w.heap.size+2) (pool0 room):=Zs3 h2 q3 q2 q1 q8 q7 q6;have q4':=q4.drew;have q5':Zah o' (((w.alloc Zbm).alloc Zbl).alloc (.cells #[.int .i64 room,.slice (some ⟨(w.heap.size+1),0,none⟩) 1 1,.slice (some ⟨w.heap.size,0,none⟩) 1 1,.slice none 0 0,.int .i64 0] 227)).drew:=q5;clear q1 q2 q3 q4 q5 q6 q7 q8 hm hz;go_wp2_with fail
  go_ret2
  exact⟨w.heap.size+2,o',rfl,g0,q4',q5',by omega⟩
open Go.RowKit
structure Zad where
 vars:List Nat
 level:List Nat
 pool:Zal
 tab:Nat->Nat×Nat->Option Nat
 counts:List Nat
 dead:Nat
structure Za5 where
 lb:Nat
 pb:Nat
 vv:Value
 vl:Value
 vt:Value
 vc:Value
 ts:List Nat
def ptrV (b:Nat):Value:=.pointer (some ⟨b,0,none⟩)
structure Zam (o:Own)(w:World)(sb:Nat)(d:Zad)(s:Za5):Prop where
 own:o sb=some .store
 ownl:o s.lb=some .levels
 blk:w.heap[sb]?=some (.cells #[.pointer (some ⟨s.lb,0,none⟩),.pointer (some ⟨s.pb,0,none⟩),s.vt,s.vc,.int .i64 d.dead] 150 (0,0))
 lev:w.heap[s.lb]?=some (.cells #[s.vv,s.vl] 152 (0,0))
 vars:RowR o w .vars 3 1 s.vv d.vars.length (d.vars.map nat64)
 level:RowR o w .level 3 1 s.vl d.level.length (d.level.map nat64)
 pool:Zaq o w s.pb d.pool
 tabs:RowR o w .tabs 173 1 s.vt s.ts.length (s.ts.map ptrV)
 tab:∀ v,v<s.ts.length->Zc9 o w v (s.ts.getD v 0) (d.tab v)
 counts:RowR o w .counts 3 1 s.vc d.counts.length (d.counts.map nat64)
 len:d.level.length=d.vars.length
 tlen:s.ts.length=d.vars.length
def Zar (o:Own)(w:World)(sb:Nat)(d:Zad):Prop:=∃ s,Zam o w sb d s
theorem Zam.below {o:Own}{w w':World}{sb:Nat}{d:Zad}{s:Za5}(h:Zam o w sb d s)(hlt:Zah o w)(hb:Below w.heap.size w w'):Zam o w' sb d s :=
 ⟨h.own,h.ownl,(hb.block sb (hlt _ _ h.own)).trans h.blk,(hb.block s.lb (hlt _ _ h.ownl)).trans h.lev,h.vars.below hlt hb,h.level.below hlt hb,h.pool.below hb hlt,h.tabs.below hlt hb,fun v hv=>(h.tab v hv).below hb hlt,h.counts.below hlt hb,h.len,h.tlen⟩
def Zad.levelOf (d:Zad)(v:Nat):Int:=if v<d.level.length then (d.level.getD v 0:Nat) else -1
theorem cells2 {w:World}{g:Nat}{a b:Value}{T:TypeId}(h:w.heap[g]?=some (.cells #[a,b] T (0,0))):w.cell? ⟨g,0,none⟩=some a/\w.cell? ⟨g,1,none⟩=some b/\(∀ k,w.frozen? ⟨g,k,none⟩=false) :=
 ⟨by rw[cell_of_row w g 0 _ _ _ h];rfl,by rw[cell_of_row w g 1 _ _ _ h];rfl,fun k=>by simp[World.frozen?,h]⟩
theorem Zks {o:Own}{w:World}{sb:Nat}{d:Zad}{s:Za5}(h:Zam o w sb d s)(v:Nat)(hbig:d.level.length<1000000) :
 Calls prog 195 #[.pointer (some ⟨s.lb,0,none⟩),.int .i64 v] w fun x w'=>x=.returned (.int .i64 (d.levelOf v))/\w=w':=by
 obtain⟨c0,c1,_⟩:=cells2 h.lev;obtain⟨a,cap,g1,_⟩:=h.level.slice;rw[g1] at c1;have g0:=h.level;rw[g1] at g0
 by_cases hv:v<d.level.length
 ·obtain⟨g,cap',he,_⟩:=g0.shape (by omega);cases he;have hx:=g0.cell v (by simpa using hv);have g2:(d.level.map nat64)[v]?=some (.int .i64 ((d.level.getD v 0:Nat):Int)):=by
   rw[List.getElem?_map,List.getElem?_eq_getElem hv];simp[nat64,List.getD,hv]
  rw[g2] at hx;have g3:(v:Int)<d.level.length:=by omega
  have hr:d.levelOf v=((d.level.getD v 0:Nat):Int):=by simp[Zad.levelOf,hv]
  rw[hr];obtain⟨L,hL⟩:∃ L:Int,L=((d.level.getD v 0:Nat):Int):=⟨_,rfl⟩;rw[<- hL] at hx ⊢;clear h g0 g1 g2 hr hL
  go_enter func195,ntmps195
  go_wp2_with fail;go_ret;exact⟨rfl,rfl⟩
 ·have g3:(d.level.length:Int)<=v:=by omega
  have hr:d.levelOf v = -1:=by simp[Zad.levelOf,hv]
  rw[hr];clear h g0 g1 hr
  go_enter func195,ntmps195
  go_wp2_with fail;go_ret;exact⟨rfl,rfl⟩
theorem Ze3 {o:Own}{w:World}{sb:Nat}{d:Zad}{s:Za5}(h:Zam o w sb d s)(v:Nat)(hbig:d.level.length<1000000) :
 Calls prog 142 #[.pointer (some ⟨sb,0,none⟩),.int .i64 v] w fun x w'=>x=.returned (.int .i64 (d.levelOf v))/\w=w':=by
 obtain⟨c0,c1,c2,c3,c4,f0⟩:=cells5 h.blk;have HC:=Hd (Zks h v hbig);clear h
 go_enter func142,ntmps142
 go_wp2_with fail;refine HC.out.mono ?_;rintro x w' ⟨rfl,rfl⟩;go_wp2_with fail;go_ret;exact⟨rfl,rfl⟩
open Go.RowKit
def Zal.has (p:Zal)(i:Nat):RN:=if p.tk i=true then p.nd i else rn0
theorem Zcx (o:Own)(pb:Nat)(p:Zal)(i:Nat)(w:World)(h:Zaq o w pb p)(hlt:Zah o w) :
 Calls prog 228 #[.pointer (some ⟨pb,0,none⟩),.int .i64 i] w fun x w'=>x=.returned (.tuple #[Zaz (p.has i),.bool (p.tk i)])/\Below w.heap.size w w':=by
 by_cases hi:p.tk i=true
 . have:=Zmy o pb p i w h hlt hi;unfold Zal.has;rw[if_pos hi,hi];exact this
 ·have g0:p.tk i=false:=by simpa using hi
  have:=Zx2 o pb p i w h hlt g0;unfold Zal.has;rw[if_neg hi,g0];exact this
theorem Yd0 (k:Nat):(((k:Nat):Int) == 0)=decide (k=0):=by
 cases k with
 | zero=>rfl
 | succ n=>simp;omega
theorem Zdo {P:Program}{o:Oper}{a:Act}{w:World}{v:Value}{f:FuncId}{args:Array Value}{K:Act->World->Prop}{Q:Exit->Act->World->Prop}{R:World->Prop}(he:(execOp a.eval o).run P w=.ok (.enter f args) w)
 (hc:Calls P f args w fun e w'=>e=.returned v/\R w') (h:∀ w',R w'->K (a.put o.dst v) w'):o.wp P a w K Q:=by
 unfold Oper.wp;simp only[he,Oper.upon];exact hc.mono fun e w' ⟨h1,h2⟩=>by subst h1;exact h w' h2
theorem Zmw {P:Program}{o:Oper}{a:Act}{w w':World}{t:TypeId}{s x:Operand}{K:Act->World->Prop}{Q:Exit->Act->World->Prop}(ho:o.op=.store t s x)
 (hr:(Instr.storeAt t (a.eval s) (a.eval x)).run P w=.ok () w') (h:K (a.put o.dst undef) w'):o.wp P a w K Q:=by
 unfold Oper.wp;rw[Ziw ho hr];exact h
theorem Zl7 {w W:World}{bx:Nat}(hb:Below w.heap.size w W)(hge:w.heap.size<=bx)(n:RN):Below w.heap.size w (set5 W bx 0 n) :=
 ((((hb.setCell (p:=⟨bx,0,none⟩) hge _).setCell (p:=⟨bx,1,none⟩) hge _).setCell (p:=⟨bx,2,none⟩) hge _).setCell (p:=⟨bx,3,none⟩) hge _).setCell (p:=⟨bx,4,none⟩) hge _
theorem Yap {W:World}{bx:Nat}(h:W.heap[bx]?=some (.cells #[.int .i64 0,.int .i64 0,.int .i64 0,.int .i64 0,.int .i64 0] 254 (0,0)))(n:RN) :
 (set5 W bx 0 n).heap[bx]?=some (.cells #[.int .i64 n.id,.int .i64 n.v,.int .i64 n.lo,.int .i64 n.hi,.int .i64 n.refs] 254 (0,0)) :=
 Zac (k:=4) (Zac (k:=3) (Zac (k:=2) (Zac (k:=1) (Zac (k:=0) h _) _) _) _) _
theorem Zg3 (a:Act){d:Option Tmp}{t:Tmp}(u v:Value)(h:d≠some t):(a.put (some t) u).put d v=(a.put d v).put (some t) u:=by
 cases d with
 | none=>rfl
 | some e =>
   have g0:t≠e:=fun c=>h (by rw[c])
   simp only[Act.put];rw[Array.setIfInBounds_comm _ _ g0]
theorem Yc9 (a:Act)(t:Tmp)(u v:Value):(a.put (some t) u).put (some t) v=a.put (some t) v:=by
 simp only[Act.put,Array.setIfInBounds_setIfInBounds]
theorem Yag (a:Act)(t:Tmp):a.put (some t) (a.tmps.getD t undef)=a:=by
 simp only[Act.put];have:a.tmps.setIfInBounds t (a.tmps.getD t undef)=a.tmps:=by
  apply Array.ext_getElem?;intro i;rw[Array.getElem?_setIfInBounds];split
  ·rename_i e
   subst e;split
   ·rename_i hl
    simp[Array.getD,hl]
   ·rename_i hl
    exact(Array.getElem?_eq_none (by omega)).symm
  . rfl
 rw[this]
def lwd (l:List Oper)(is:List Nat):Array Bool:=is.foldl (fun L i=>L.setIfInBounds i true) (Array.replicate l.toArray.size false)
theorem Znw (l:List Oper)(is:List Nat)(i:Nat):lwd l (is++[i])=(lwd l is).setIfInBounds i true:=by
 unfold lwd;rw[List.foldl_append];rfl
def rdR (l:List Oper)(is:List Nat)(i:Nat):Bool:=Region.noSelect l.toArray&&(Region.ready .any l.toArray (lwd l is)).contains i&&Region.free .any l.toArray (lwd l is) i&&(decide (l.toArray.size<=13)||reaches l.toArray l.toArray.size i 13)
def rdA (l:List Oper)(is js:List Nat):Bool:=decide (Region.ready .any l.toArray (lwd l is)=js) && !js.isEmpty
def rdE (l:List Oper)(is:List Nat):Bool:=(Region.ready .any l.toArray (lwd l is)).isEmpty
def andL:List Bool->Bool
 | []=>true
 | b::r=>b&&andL r
theorem Za6 {r:List Bool}(h:andL r=true)(i:Nat){b:Bool}(hb:r[i]?=some b):b=true:=by
 induction r generalizing i with
 | nil=>simp at hb
 | cons c r ih =>
   have h2:(c&&andL r)=true:=h;rw[Bool.and_eq_true] at h2;cases i with
   | zero=>simp at hb;rw[<- hb];exact h2.1
   | succ i=>exact ih h2.2 i (by simpa using hb)
def Yed (l:List Oper):List Bool:=[rdR l [] 0,
 rdR l ([]++[0]) 1,
 rdR l (([]++[0])++[1]) 2,
 rdR l ((([]++[0])++[1])++[2]) 3,
 rdR l (((([]++[0])++[1])++[2])++[3]) 4,
 rdA l ((((([]++[0])++[1])++[2])++[3])++[4]) [5,10],
 rdA l (((((([]++[0])++[1])++[2])++[3])++[4])++[5]) [6,10],
 rdR l ((((((([]++[0])++[1])++[2])++[3])++[4])++[5])++[6]) 7,
 rdR l (((((((([]++[0])++[1])++[2])++[3])++[4])++[5])++[6])++[7]) 8,
 rdR l ((((((((([]++[0])++[1])++[2])++[3])++[4])++[5])++[6])++[7])++[8]) 9,
 rdA l (((((((((([]++[0])++[1])++[2])++[3])++[4])++[5])++[6])++[7])++[8])++[9]) [10],
 rdA l ((((((((((([]++[0])++[1])++[2])++[3])++[4])++[5])++[6])++[7])++[8])++[9])++[10]) [11],
 rdR l (((((((((((([]++[0])++[1])++[2])++[3])++[4])++[5])++[6])++[7])++[8])++[9])++[10])++[11]) 12,
 rdE l ((((((((((((([]++[0])++[1])++[2])++[3])++[4])++[5])++[6])++[7])++[8])++[9])++[10])++[11])++[12]),
 rdA l ((((((([]++[0])++[1])++[2])++[3])++[4])++[5])++[10]) [6],
 rdR l (((((((([]++[0])++[1])++[2])++[3])++[4])++[5])++[10])++[6]) 7,
 rdR l ((((((((([]++[0])++[1])++[2])++[3])++[4])++[5])++[10])++[6])++[7]) 8,
 rdR l (((((((((([]++[0])++[1])++[2])++[3])++[4])++[5])++[10])++[6])++[7])++[8]) 9,
 rdA l ((((((((((([]++[0])++[1])++[2])++[3])++[4])++[5])++[10])++[6])++[7])++[8])++[9]) [11],
 rdR l (((((((((((([]++[0])++[1])++[2])++[3])++[4])++[5])++[10])++[6])++[7])++[8])++[9])++[11]) 12,
 rdE l ((((((((((((([]++[0])++[1])++[2])++[3])++[4])++[5])++[10])++[6])++[7])++[8])++[9])++[11])++[12]),
 rdA l (((((([]++[0])++[1])++[2])++[3])++[4])++[10]) [5],
 rdA l ((((((([]++[0])++[1])++[2])++[3])++[4])++[10])++[5]) [6],
 rdR l (((((((([]++[0])++[1])++[2])++[3])++[4])++[10])++[5])++[6]) 7,
 rdR l ((((((((([]++[0])++[1])++[2])++[3])++[4])++[10])++[5])++[6])++[7]) 8,
 rdR l (((((((((([]++[0])++[1])++[2])++[3])++[4])++[10])++[5])++[6])++[7])++[8]) 9,
 rdA l ((((((((((([]++[0])++[1])++[2])++[3])++[4])++[10])++[5])++[6])++[7])++[8])++[9]) [11],
 rdR l (((((((((((([]++[0])++[1])++[2])++[3])++[4])++[10])++[5])++[6])++[7])++[8])++[9])++[11]) 12,
 rdE l ((((((((((((([]++[0])++[1])++[2])++[3])++[4])++[10])++[5])++[6])++[7])++[8])++[9])++[11])++[12])]
abbrev Zq4:Obj:=.cells #[.int .i64 0,.int .i64 0,.int .i64 0,.int .i64 0,.int .i64 0] 254
abbrev Zv5 (n:RN):Obj:=.cells #[.int .i64 n.id,.int .i64 n.v,.int .i64 n.lo,.int .i64 n.hi,.int .i64 n.refs] 254 (0,0)
section
variable {P:Program}{Q:Exit->Act->World->Prop}
theorem Zh9 {S:World->Prop}{l:List Oper}{f:Nat}{is:List Nat}{a:Act}{w:World}{i:Nat}{o:Oper}(hr:rdA l is [i]=true)(ho:l[i]?=some o)(hg:o.guard=none)
 (h:S w->o.wp P a w (fun a' w'=>S w'/\Left P l Q S 13 f (lwd l (is++[i])) a' w') (NP Q)):Left P l Q S 13 (f+1) (lwd l is) a w :=
 Zd3 [i] hr fun j hj hS o2 ho2=>by
  rw[List.mem_singleton] at hj;subst hj;rw[ho] at ho2;cases ho2;rw[<- Znw];exact⟨by simp[Region.wanted,hg],h hS⟩
theorem Zsr {S:World->Prop}{l:List Oper}{f:Nat}{is:List Nat}{a:Act}{w:World}{i j:Nat}{o p:Oper}(hr:rdA l is [i,j]=true)(ho:l[i]?=some o)(hp:l[j]?=some p)(hg:o.guard=none)(hq:p.guard=none)
 (h:S w->o.wp P a w (fun a' w'=>S w'/\Left P l Q S 13 f (lwd l (is++[i])) a' w') (NP Q)) (h2:S w->p.wp P a w (fun a' w'=>S w'/\Left P l Q S 13 f (lwd l (is++[j])) a' w') (NP Q)):Left P l Q S 13 (f+1) (lwd l is) a w :=
 Zd3 [i,j] hr fun k hk hS o2 ho2=>by
  simp only[List.mem_cons,List.not_mem_nil,or_false] at hk;rw[<- Znw];rcases hk with rfl|rfl
  . rw[ho] at ho2;cases ho2;exact⟨by simp[Region.wanted,hg],h hS⟩
  . rw[hp] at ho2;cases ho2;exact⟨by simp[Region.wanted,hq],h2 hS⟩
theorem Zdc {S:World->Prop}{l:List Oper}{f:Nat}{is:List Nat}{a:Act}{w:World}{i:Nat}{o:Oper}{v:Value}(hB:rdR l is i=true)(ho:l[i]?=some o)(hg:o.guard=none)
 (hv:∀ w,S w->(execOp a.eval o).run P w=.ok (.value v) w) (h:Left P l Q S 13 f (lwd l (is++[i])) (a.put o.dst v) w):Left P l Q S 13 (f+1) (lwd l is) a w :=
 Zbj i ho hg hB ⟨v,hv,by rw[<- Znw];exact h⟩
theorem Zen {id:Nat}{l:List Oper}{a:Act}{w0 w:World}{o0 o1 o2 o3 o4 o5 o6 o7 o8 o9 o10 o11 o12:Oper}{t:Tmp}{N:RN}(hl:l=[o0,o1,o2,o3,o4,o5,o6,o7,o8,o9,o10,o11,o12])(rd:andL (Yed l)=true)(hm:P.follows .mixedOrders=true)
 (hg:(o0.guard=none/\o1.guard=none/\o2.guard=none/\o3.guard=none/\o4.guard=none/\o5.guard=none/\o6.guard=none)/\o7.guard=none/\o8.guard=none/\o9.guard=none/\o10.guard=none/\o11.guard=none/\o12.guard=none)
 (ht:o10.dst=some t) (hne:o5.dst≠some t/\o6.dst≠some t/\o7.dst≠some t/\o8.dst≠some t/\o9.dst≠some t) (hS:Below w0.heap.size w0 w.drew)
 {v0 v1 v2 v3 v4 v5 v6 v7 v8 v9 v12:Value} {g5 g6:FuncId} {as5 as6:Array Value}
 (c5:∀ W,Below w0.heap.size w0 W->Calls P g5 as5 W fun e w'=>e=.returned v5/\W=w') (c6:∀ W,Below w0.heap.size w0 W->Calls P g6 as6 W fun e w'=>e=.returned v6/\Below W.heap.size W w')
 (h0:∀ W,Below w0.heap.size w0 W->(execOp a.eval o0).run P W=.ok (.value v0) W/\(execOp (a.put o0.dst v0).eval o1).run P W=.ok (.value v1) W/\(execOp ((a.put o0.dst v0).put o1.dst v1).eval o2).run P W=.ok (.value v2) W/\(execOp (((a.put o0.dst v0).put o1.dst v1).put o2.dst v2).eval o3).run P W=.ok (.value v3) W/\(execOp ((((a.put o0.dst v0).put o1.dst v1).put o2.dst v2).put o3.dst v3).eval o4).run P W=.ok (.value v4) W)
 (h5:∀ (x:Value) W,(execOp ((((((a.put o0.dst v0).put o1.dst v1).put o2.dst v2).put o3.dst v3).put o4.dst v4).put (some t) x).eval o5).run P W=.ok (.enter g5 as5) W/\(execOp (((((((a.put o0.dst v0).put o1.dst v1).put o2.dst v2).put o3.dst v3).put o4.dst v4).put (some t) x).put o5.dst v5).eval o6).run P W=.ok (.enter g6 as6) W)
 (h7:∀ (x:Value) (W:World) (X:Act),X=(((((((a.put o0.dst v0).put o1.dst v1).put o2.dst v2).put o3.dst v3).put o4.dst v4).put (some t) x).put o5.dst v5).put o6.dst v6->(execOp X.eval o7).run P W=.ok (.value v7) W/\(execOp (X.put o7.dst v7).eval o8).run P W=.ok (.value v8) W/\(execOp ((X.put o7.dst v7).put o8.dst v8).eval o9).run P W=.ok (.value v9) W)
 (h10:∀ (a:Act) W,(execOp a.eval o10).run P W=.ok (.value (.pointer (some ⟨W.heap.size,0,none⟩))) (W.alloc Zq4))
 (h11:∀ (bx:Nat) (W:World) (Y:Act),W.heap[bx]?=some (.cells #[.int .i64 0,.int .i64 0,.int .i64 0,.int .i64 0,.int .i64 0] 254 (0,0))->Y=((((((((((a.put o0.dst v0).put o1.dst v1).put o2.dst v2).put o3.dst v3).put o4.dst v4).put (some t) (.pointer (some ⟨bx,0,none⟩))).put o5.dst v5).put o6.dst v6).put o7.dst v7).put o8.dst v8).put o9.dst v9->(∃ T s x,o11.op=.store T s x/\(Instr.storeAt T (Y.eval s) (Y.eval x)).run P W=.ok () (set5 W bx 0 N))/\∀ W,(execOp (Y.put o11.dst undef).eval o12).run P W=.ok (.value v12) W)
 (hf:∀ (bx:Nat) (W:World),w0.heap.size<=bx->Below w0.heap.size w0 W->W.heap[bx]?=some (Zv5 N)->Q .normal ((((((((((((a.put o0.dst v0).put o1.dst v1).put o2.dst v2).put o3.dst v3).put o4.dst v4).put (some t) (.pointer (some ⟨bx,0,none⟩))).put o5.dst v5).put o6.dst v6).put o7.dst v7).put o8.dst v8).put o9.dst v9).put o11.dst undef |>.put o12.dst v12) W) :
 (Code.region id l.toArray true).wp P Q a w:=by
 obtain⟨⟨q0,q1,q2,q3,q4,q5,q6⟩,q7,q8,q9,q10,q11,q12⟩:=hg;obtain⟨n5,n6,n7,n8,n9⟩:=hne;have e0:l[0]?=some o0:=by rw[hl];rfl
 have e1:l[1]?=some o1:=by rw[hl];rfl
 have e2:l[2]?=some o2:=by rw[hl];rfl
 have e3:l[3]?=some o3:=by rw[hl];rfl
 have e4:l[4]?=some o4:=by rw[hl];rfl
 have e5:l[5]?=some o5:=by rw[hl];rfl
 have e6:l[6]?=some o6:=by rw[hl];rfl
 have e7:l[7]?=some o7:=by rw[hl];rfl
 have e8:l[8]?=some o8:=by rw[hl];rfl
 have e9:l[9]?=some o9:=by rw[hl];rfl
 have e10:l[10]?=some o10:=by rw[hl];rfl
 have e11:l[11]?=some o11:=by rw[hl];rfl
 have e12:l[12]?=some o12:=by rw[hl];rfl
 have g3:l.length=13:=by rw[hl];rfl
 clear hl;have r0:=Za6 rd 0 rfl;have r1:=Za6 rd 1 rfl;have r2:=Za6 rd 2 rfl;have r3:=Za6 rd 3 rfl;have r4:=Za6 rd 4 rfl;have s0:=Za6 rd 5 rfl;have s1:=Za6 rd 6 rfl;have p7:=Za6 rd 7 rfl;have p8:=Za6 rd 8 rfl;have p9:=Za6 rd 9 rfl;have p10:=Za6 rd 10 rfl;have p11:=Za6 rd 11 rfl;have p12:=Za6 rd 12 rfl;have p13:=Za6 rd 13 rfl;have u6:=Za6 rd 14 rfl;have u7:=Za6 rd 15 rfl;have u8:=Za6 rd 16 rfl;have u9:=Za6 rd 17 rfl;have u11:=Za6 rd 18 rfl;have u12:=Za6 rd 19 rfl;have u13:=Za6 rd 20 rfl;have k5:=Za6 rd 21 rfl;have k6:=Za6 rd 22 rfl;have k7:=Za6 rd 23 rfl;have k8:=Za6 rd 24 rfl;have k9:=Za6 rd 25 rfl;have k11:=Za6 rd 26 rfl;have k12:=Za6 rd 27 rfl;have k13:=Za6 rd 28 rfl;clear rd;refine Ze4 (fun W:World=>Below w0.heap.size w0 W) 13 hm hS ?_;rw[g3]
 show Left P l Q (fun W:World=>Below w0.heap.size w0 W) 13 13 (lwd l []) a w.drew
 have hw:=hS
 generalize w.drew=w at hw ⊢
 refine Zdc r0 e0 q0 (fun W hW=>(h0 W hW).1) ?_;refine Zdc r1 e1 q1 (fun W hW=>(h0 W hW).2.1) ?_;refine Zdc r2 e2 q2 (fun W hW=>(h0 W hW).2.2.1) ?_;refine Zdc r3 e3 q3 (fun W hW=>(h0 W hW).2.2.2.1) ?_;refine Zdc r4 e4 q4 (fun W hW=>(h0 W hW).2.2.2.2) ?_;obtain⟨A,hA⟩:∃ A,A=((((a.put o0.dst v0).put o1.dst v1).put o2.dst v2).put o3.dst v3).put o4.dst v4:=⟨_,rfl⟩;rw[<- hA] at h5 h7 h11 hf ⊢;clear h0 hA;have c5p:∀ (x y:Value),((A.put (some t) x).put o5.dst v5).put (some t) y=(A.put (some t) y).put o5.dst v5:=fun x y=>by
  rw[Zg3 A x v5 n5,Yc9,<- Zg3 A y v5 n5]
 have c9p:∀ (x y:Value),((((((A.put (some t) x).put o5.dst v5).put o6.dst v6).put o7.dst v7).put o8.dst v8).put o9.dst v9).put (some t) y=(((((A.put (some t) y).put o5.dst v5).put o6.dst v6).put o7.dst v7).put o8.dst v8).put o9.dst v9:=fun x y=>by
  rw[<- Zg3 _ y v9 n9,<- Zg3 _ y v8 n8,<- Zg3 _ y v7 n7,<- Zg3 _ y v6 n6,c5p]
 have fin:∀ (is:List Nat) (bx:Nat) (W:World),W.heap[bx]?=some (.cells #[.int .i64 0,.int .i64 0,.int .i64 0,.int .i64 0,.int .i64 0] 254 (0,0))->w0.heap.size<=bx->Below w0.heap.size w0 W ->
  rdA l is [11]=true->rdR l (is++[11]) 12=true->rdE l (is++[11]++[12])=true ->
  Left P l Q (fun W:World=>Below w0.heap.size w0 W) 13 2 (lwd l is) ((((((A.put (some t) (.pointer (some ⟨bx,0,none⟩))).put o5.dst v5).put o6.dst v6).put o7.dst v7).put o8.dst v8).put o9.dst v9) W:=fun is bx W hz g2 hW i1 i2 i3=>by
  obtain⟨⟨T,s,x,j1,j2⟩,j3⟩:=h11 bx W _ hz rfl;refine Zh9 i1 e11 q11 fun _=>Zmw j1 j2 ⟨Zl7 hW g2 N,?_⟩
  refine Zdc i2 e12 q12 (fun W _=>j3 W) ?_;exact Zjz i3 (hf bx _ g2 (Zl7 hW g2 N) (Yap hz N))
 refine Zsr s0 e5 e10 q5 q10 (fun _=>?_) (fun _=>?_)
 ·obtain⟨x,hx⟩:∃ x,A.put (some t) x=A:=⟨_,Yag A t⟩;rw[<- hx];refine Zdo (h5 x w).1 (c5 w hw) ?_;rintro W rfl;refine⟨hw,Zsr s1 e6 e10 q6 q10 (fun _=>?_) (fun _=>?_)⟩
  ·refine Zdo (h5 x w).2 (c6 w hw) fun W hW=>?_
   have g1:=hw.trans (hW.mono hw.size);refine⟨g1,?_⟩;refine Zdc p7 e7 q7 (fun W _=>(h7 x W _ rfl).1) ?_;refine Zdc p8 e8 q8 (fun W _=>(h7 x W _ rfl).2.1) ?_;refine Zdc p9 e9 q9 (fun W _=>(h7 x W _ rfl).2.2) ?_;have g0:=g1.trans ((Zae W Zq4).mono g1.size);refine Zh9 p10 e10 q10 fun _=>Zcw (h10 _ W) ⟨g0,?_⟩
   rw[ht,c9p];exact fin _ _ _ (heap_alloc_new W _) g1.size g0 p11 p12 p13
  ·have g0:=hw.trans ((Zae w Zq4).mono hw.size);refine Zcw (h10 _ w) ⟨g0,?_⟩;rw[ht,c5p];have hz:=heap_alloc_new w Zq4;have g2:w0.heap.size<=w.heap.size:=hw.size
   generalize w.alloc Zq4=u at g0 hz ⊢
   generalize w.heap.size=bx at hz g2 ⊢
   refine Zh9 u6 e6 q6 fun _=>Zdo (h5 _ u).2 (c6 u g0) fun W hW=>?_
   have g1:=g0.trans (hW.mono g0.size);refine⟨g1,?_⟩;refine Zdc u7 e7 q7 (fun W _=>(h7 _ W _ rfl).1) ?_;refine Zdc u8 e8 q8 (fun W _=>(h7 _ W _ rfl).2.1) ?_;refine Zdc u9 e9 q9 (fun W _=>(h7 _ W _ rfl).2.2) ?_;exact fin _ bx W ((hW.block _ (Array.getElem?_eq_some_iff.1 hz).1).trans hz) g2 g1 u11 u12 u13
 ·have g0:=hw.trans ((Zae w Zq4).mono hw.size);refine Zcw (h10 _ w) ⟨g0,?_⟩;rw[ht];have hz:=heap_alloc_new w Zq4;have g2:w0.heap.size<=w.heap.size:=hw.size
  generalize w.alloc Zq4=u at g0 hz ⊢
  generalize w.heap.size=bx at hz g2 ⊢
  refine Zh9 k5 e5 q5 fun _=>Zdo (h5 _ u).1 (c5 u g0) ?_
  rintro W rfl;refine⟨g0,?_⟩;refine Zh9 k6 e6 q6 fun _=>Zdo (h5 _ u).2 (c6 u g0) fun W hW=>?_
  have g1:=g0.trans (hW.mono g0.size);refine⟨g1,?_⟩;refine Zdc k7 e7 q7 (fun W _=>(h7 _ W _ rfl).1) ?_;refine Zdc k8 e8 q8 (fun W _=>(h7 _ W _ rfl).2.1) ?_;refine Zdc k9 e9 q9 (fun W _=>(h7 _ W _ rfl).2.2) ?_;exact fin _ bx W ((hW.block _ (Array.getElem?_eq_some_iff.1 hz).1).trans hz) g2 g1 k11 k12 k13
end
open Go.RowKit
theorem Zdx {o:Own}{w:World}{sb:Nat}{d:Zad}{s:Za5}(h:Zam o w sb d s)(hlt:Zah o w)(f:Nat)(hf:f<eMax) :
 Calls prog 198 #[.pointer (some ⟨sb,0,none⟩),.int .i64 f] w fun x w'=>x=.returned (.bool (decide (enode f=0)||d.pool.tk (enode f)))/\Below w.heap.size w w':=by
 obtain⟨c0,c1,c2,c3,c4,f0⟩:=cells5 h.blk;have lsb:sb<w.heap.size:=Zab c0;have hz:(0:Int)<=f:=by omega
 have g3:Hid (∀ W:World,Below w.heap.size w W->W.cell? ⟨sb,1,none⟩=some (.pointer (some ⟨s.pb,0,none⟩))):=Hd (fun W hb=>(hb.cell (p:=⟨sb,1,none⟩) lsb).trans c1);have g1:Hid (∀ W:World,Below w.heap.size w W->Calls prog 228 #[.pointer (some ⟨s.pb,0,none⟩),.int .i64 (enode f:Nat)] W fun x w'=>x=.returned (.tuple #[Zaz (d.pool.has (enode f)),.bool (d.pool.tk (enode f))])/\Below W.heap.size W w') :=
  Hd (fun W hb=>Zcx o s.pb d.pool (enode f) W (h.pool.below hb hlt) (hlt.mono hb.size))
 have HN:=Hd (fun W=>Zb2 f W hf);obtain⟨N,hN⟩:∃ N,N=d.pool.has (enode f):=⟨_,rfl⟩;obtain⟨B,hB⟩:∃ B,B=d.pool.tk (enode f):=⟨_,rfl⟩;obtain⟨k,hk⟩:∃ k,k=enode f:=⟨_,rfl⟩;rw[<- hN,<- hB,<- hk] at g1;rw[<- hk] at HN;rw[<- hB,<- hk];obtain⟨z,g0⟩:∃ z:Bool,z=decide (k=0):=⟨_,rfl⟩;have g5:(((k:Nat):Int) == 0)=z:=by rw[g0];exact Yd0 k
 rw[<- g0];clear h hlt c0 c1 c2 c3 c4 f0 hN hB hk hf g0
 go_enter func198,ntmps198
 go_upto_region 3 with fail;refine Zen (w0:=w) (N:=N) (v0:=.pointer (some ⟨sb,0,none⟩)) (v1:=.pointer (some ⟨sb,0,none⟩)) (v2:=.pointer (some ⟨sb,1,none⟩)) (v3:=.pointer (some ⟨s.pb,0,none⟩)) (v4:=.int .i64 f) (v5:=.int .i64 k) (v6:=.tuple #[Zaz N,.bool B]) (v7:=.tuple #[Zaz N,.bool B]) (v8:=Zaz N) (v9:=.bool B) (v12:=.bool B) rfl (by kernel_rfl) (by kernel_rfl) ⟨⟨rfl,rfl,rfl,rfl,rfl,rfl,rfl⟩,rfl,rfl,rfl,rfl,rfl,rfl⟩ rfl (by decide) (Zag w 1) (fun W _=>HN.out W) (fun W hb=>g1.out W hb) (fun W hb=>?_) (fun x W=>?_) (fun x W X hX=>?_) (fun a W=>?_) (fun bx W Y hz hY=>?_) (fun bx W3 g6 g2 g4=>?_)
 . have g7:=g3.out W hb;simp only[Zai];refine⟨?_,?_,?_,?_,?_⟩<;>go_simp
 . simp only[Zai];refine⟨?_,?_⟩<;>go_simp
 . subst hX;simp only[Zai];unfold Zaz;refine⟨?_,?_,?_⟩<;>go_simp
 . go_simp
 . subst hY;obtain⟨e0,e1,e2,e3,e4,fz⟩:=cells5 hz;simp only[Zai];unfold Zaz;refine⟨⟨_,_,_,rfl,Zb4 (k:=0) fz e0 e1 e2 e3 e4 _ _ _ _ _⟩,fun W=>?_⟩;go_simp
 simp only[Zai];unfold Zaz;go_wp2_with fail;refine(HN.out _).mono ?_;rintro x w' ⟨rfl,rfl⟩;cases z
 all_goals go_wp2_with fail
 all_goals go_ret
 all_goals exact⟨rfl,g2⟩
open Go.RowKit
theorem Zl4 {o:Own}{w:World}{sb:Nat}{d:Zad}{s:Za5}(h:Zam o w sb d s)(hlt:Zah o w)(f:Nat)(hf:f<eMax)(lv:Int)(hbig:d.level.length<1000000) :
 Calls prog 245 #[.pointer (some ⟨sb,0,none⟩),.int .i64 f,.int .i64 lv] w fun x w'=>x=.returned (.bool (decide (enode f=0)||(d.pool.tk (enode f)&&decide (lv<d.levelOf (d.pool.has (enode f)).v))))/\Below w.heap.size w w':=by
 obtain⟨c0,c1,c2,c3,c4,f0⟩:=cells5 h.blk;have lsb:sb<w.heap.size:=Zab c0;have g5:Hid (∀ W:World,Below w.heap.size w W->W.cell? ⟨sb,1,none⟩=some (.pointer (some ⟨s.pb,0,none⟩))):=Hd (fun W hb=>(hb.cell (p:=⟨sb,1,none⟩) lsb).trans c1);have g2:Hid (∀ W:World,Below w.heap.size w W->Calls prog 228 #[.pointer (some ⟨s.pb,0,none⟩),.int .i64 (enode f:Nat)] W fun x w'=>x=.returned (.tuple #[Zaz (d.pool.has (enode f)),.bool (d.pool.tk (enode f))])/\Below W.heap.size W w') :=
  Hd (fun W hb=>Zcx o s.pb d.pool (enode f) W (h.pool.below hb hlt) (hlt.mono hb.size))
 have g3:Hid (∀ W:World,Below w.heap.size w W->Calls prog 142 #[.pointer (some ⟨sb,0,none⟩),.int .i64 ((d.pool.has (enode f)).v:Nat)] W fun x w'=>x=.returned (.int .i64 (d.levelOf (d.pool.has (enode f)).v))/\W=w') :=
  Hd (fun W hb=>Ze3 (h.below hlt hb) _ hbig)
 have HN:=Hd (fun W=>Zb2 f W hf);obtain⟨N,hN⟩:∃ N,N=d.pool.has (enode f):=⟨_,rfl⟩;obtain⟨B,hB⟩:∃ B,B=d.pool.tk (enode f):=⟨_,rfl⟩;obtain⟨k,hk⟩:∃ k,k=enode f:=⟨_,rfl⟩;rw[<- hN] at g2 g3;rw[<- hB,<- hk] at g2;rw[<- hk] at HN;rw[<- hB,<- hN,<- hk];obtain⟨M,hM⟩:∃ M,M=d.levelOf N.v:=⟨_,rfl⟩;rw[<- hM] at g3 ⊢;obtain⟨z,g1⟩:∃ z:Bool,z=decide (k=0):=⟨_,rfl⟩;have g6:(((k:Nat):Int) == 0)=z:=by rw[g1];exact Yd0 k
 rw[<- g1];clear h hlt c0 c1 c2 c3 c4 f0 hN hB hk hf g1 hM
 go_enter func245,ntmps245
 go_upto_region 1 with fail;refine Zen (w0:=w) (N:=N) (v0:=.pointer (some ⟨sb,0,none⟩)) (v1:=.pointer (some ⟨sb,0,none⟩)) (v2:=.pointer (some ⟨sb,1,none⟩)) (v3:=.pointer (some ⟨s.pb,0,none⟩)) (v4:=.int .i64 f) (v5:=.int .i64 k) (v6:=.tuple #[Zaz N,.bool B]) (v7:=.tuple #[Zaz N,.bool B]) (v8:=Zaz N) (v9:=.bool B) (v12:=.bool B) rfl (by kernel_rfl) (by kernel_rfl) ⟨⟨rfl,rfl,rfl,rfl,rfl,rfl,rfl⟩,rfl,rfl,rfl,rfl,rfl,rfl⟩ rfl (by decide) (Zag w 1) (fun W _=>HN.out W) (fun W hb=>g2.out W hb) (fun W hb=>?_) (fun x W=>?_) (fun x W X hX=>?_) (fun a W=>?_) (fun bx W Y hz hY=>?_) (fun bx W3 g7 g0 g4=>?_)
 . have g8:=g5.out W hb;simp only[Zai];refine⟨?_,?_,?_,?_,?_⟩<;>go_simp
 . simp only[Zai];refine⟨?_,?_⟩<;>go_simp
 . subst hX;simp only[Zai];unfold Zaz;refine⟨?_,?_,?_⟩<;>go_simp
 . go_simp
 . subst hY;obtain⟨e0,e1,e2,e3,e4,fz⟩:=cells5 hz;simp only[Zai];unfold Zaz;refine⟨⟨_,_,_,rfl,Zb4 (k:=0) fz e0 e1 e2 e3 e4 _ _ _ _ _⟩,fun W=>?_⟩;go_simp
 simp only[Zai];unfold Zaz;obtain⟨y0,y1,y2,y3,y4,yz⟩:=cells5 g4;go_wp2_with fail;refine(HN.out _).mono ?_;rintro x w' ⟨rfl,rfl⟩;cases z
 ·cases B
  . go_wp2_with fail;go_ret;exact⟨rfl,g0⟩
  . go_wp2_with fail;refine(g3.out _ g0).mono ?_;rintro x w' ⟨rfl,rfl⟩;go_wp2_with fail;go_ret;exact⟨rfl,g0⟩
 . go_wp2_with fail;go_ret;exact⟨rfl,g0⟩
open Go.RowKit
theorem Zbd {P:Program}{f:FuncId}{args:Array Value}{w:World}{n:Nat}{v:Value}
 (h:Calls P f args (w.drewN n) fun e w'=>e=.returned v/\w.drewN n=w'):Calls P f args (w.drewN n) fun e w''=>e=.returned v/\∃ m,w''=w.drewN m :=
 h.mono fun _ _ ⟨he,hm⟩=>⟨he,n,hm.symm⟩
theorem Zgl {fn:Func}{t u v x:Tmp}(h:fn.results=#[.tmp t,.tmp u,.tmp v,.tmp x])(tmps:Array Value)(P:Program)(w:World) :
 (results fn tmps).run P w=.ok (.tuple #[tmps.getD t undef,tmps.getD u undef,tmps.getD v undef,tmps.getD x undef]) w:=by
 simp[results,h]
theorem Zlf {o:Own}{w:World}{sb:Nat}{d:Zad}{s:Za5}(h:Zam o w sb d s)(hlt:Zah o w)(f:Nat)(hf:f<eMax)(hlo:(d.pool.has (enode f)).lo<eMax)(hhi:(d.pool.has (enode f)).hi<eMax) :
 Calls prog 175 #[.pointer (some ⟨sb,0,none⟩),.int .i64 f] w fun x w'=>x=.returned (if d.pool.tk (enode f)=true then .tuple #[.int .i64 (d.pool.has (enode f)).v,.int .i64 (eflip (d.pool.has (enode f)).lo (eneg f):Nat),.int .i64 (eflip (d.pool.has (enode f)).hi (eneg f):Nat),.bool true] else .tuple #[.int .i64 (-1),.int .i64 0,.int .i64 0,.bool false])/\Below w.heap.size w w':=by
 obtain⟨c0,c1,c2,c3,c4,f0⟩:=cells5 h.blk;have lsb:sb<w.heap.size:=Zab c0;have g6:Hid (∀ W:World,Below w.heap.size w W->W.cell? ⟨sb,1,none⟩=some (.pointer (some ⟨s.pb,0,none⟩))):=Hd (fun W hb=>(hb.cell (p:=⟨sb,1,none⟩) lsb).trans c1);have g2:Hid (∀ W:World,Below w.heap.size w W->Calls prog 228 #[.pointer (some ⟨s.pb,0,none⟩),.int .i64 (enode f:Nat)] W fun x w'=>x=.returned (.tuple #[Zaz (d.pool.has (enode f)),.bool (d.pool.tk (enode f))])/\Below W.heap.size W w') :=
  Hd (fun W hb=>Zcx o s.pb d.pool (enode f) W (h.pool.below hb hlt) (hlt.mono hb.size))
 have hz:(0:Int)<=f:=by omega
 have HG:=Hd (fun W=>Zkz f W hf);have g0:=Hd (fun W b=>Zc6 (d.pool.has (enode f)).lo b W hlo);have g1:=Hd (fun W b=>Zc6 (d.pool.has (enode f)).hi b W hhi);have HN:=Hd (fun W=>Zb2 f W hf);obtain⟨N,hN⟩:∃ N,N=d.pool.has (enode f):=⟨_,rfl⟩;obtain⟨B,hB⟩:∃ B,B=d.pool.tk (enode f):=⟨_,rfl⟩;obtain⟨k,hk⟩:∃ k,k=enode f:=⟨_,rfl⟩;rw[<- hN] at g2 g0 g1;rw[<- hB,<- hk] at g2;rw[<- hk] at HN;rw[<- hB,<- hN];obtain⟨g,hg⟩:∃ g:Bool,g=eneg f:=⟨_,rfl⟩;rw[<- hg] at HG ⊢;have g0:=Hd (fun W=>g0.out W g);have g1:=Hd (fun W=>g1.out W g);obtain⟨A,hA⟩:∃ A,A=eflip N.lo g:=⟨_,rfl⟩;obtain⟨C,hC⟩:∃ C,C=eflip N.hi g:=⟨_,rfl⟩;rw[<- hA] at g0 ⊢;rw[<- hC] at g1 ⊢;obtain⟨RV,g3⟩:∃ RV:Value,RV=(if B=true then .tuple #[.int .i64 N.v,.int .i64 (A:Nat),.int .i64 (C:Nat),.bool true] else .tuple #[.int .i64 (-1),.int .i64 0,.int .i64 0,.bool false]):=⟨_,rfl⟩;rw[<- g3];have g5:=Hd g3;clear h hlt c0 c1 c2 c3 c4 f0 hN hB hk hf hg hA hC hlo hhi g3
 go_enter func175,ntmps175
 go_upto_region 3 with fail;refine Zen (w0:=w) (N:=N) (v0:=.pointer (some ⟨sb,0,none⟩)) (v1:=.pointer (some ⟨sb,0,none⟩)) (v2:=.pointer (some ⟨sb,1,none⟩)) (v3:=.pointer (some ⟨s.pb,0,none⟩)) (v4:=.int .i64 f) (v5:=.int .i64 k) (v6:=.tuple #[Zaz N,.bool B]) (v7:=.tuple #[Zaz N,.bool B]) (v8:=Zaz N) (v9:=.bool B) (v12:=.bool B) rfl (by kernel_rfl) (by kernel_rfl) ⟨⟨rfl,rfl,rfl,rfl,rfl,rfl,rfl⟩,rfl,rfl,rfl,rfl,rfl,rfl⟩ rfl (by decide) (Zag w 1) (fun W _=>HN.out W) (fun W hb=>g2.out W hb) (fun W hb=>?_) (fun x W=>?_) (fun x W X hX=>?_) (fun a W=>?_) (fun bx W Y hz hY=>?_) (fun bx W3 g8 g4 g7=>?_)
 . have g9:=g6.out W hb;simp only[Zai];refine⟨?_,?_,?_,?_,?_⟩<;>go_simp
 . simp only[Zai];refine⟨?_,?_⟩<;>go_simp
 . subst hX;simp only[Zai];unfold Zaz;refine⟨?_,?_,?_⟩<;>go_simp
 . go_simp
 . subst hY;obtain⟨e0,e1,e2,e3,e4,fz⟩:=cells5 hz;simp only[Zai];unfold Zaz;refine⟨⟨_,_,_,rfl,Zb4 (k:=0) fz e0 e1 e2 e3 e4 _ _ _ _ _⟩,fun W=>?_⟩;go_simp
 simp only[Zai];unfold Zaz;obtain⟨y0,y1,y2,y3,y4,yz⟩:=cells5 g7;clear HN g2 g6;cases B
 . go_wp2_with fail;refine bodyPost_ret (Zgl rfl _ _ _) rfl ⟨?_,g4⟩;rw[g5.out];rfl
 ·go_upto_region 6 with fail
  go_quiet ((first|(with_reducible exact Zbd (HG.out _))|(with_reducible exact Zbd (g0.out _))|(with_reducible exact Zbd (g1.out _))))
  go_wp2_with fail;refine bodyPost_ret (Zgl rfl _ _ _) rfl ⟨?_,Za9 g4 _⟩;rw[g5.out];rfl
open Go.RowKit
def bnOf (r:RN):BN:=⟨r.v,r.lo,r.hi⟩
def Zaa (d:Zad):Nat->Option BN:=fun i=>(d.pool.get i).map bnOf
def Zau (d:Zad):Nat->Nat:=fun i=>d.counts.getD i 0
def Zad.cd (d:Zad)(cs:List Nat)(dd:Nat):Zad:={ d with counts:=cs,dead:=dd }
theorem Za1 {d:Zad}{i:Nat}{b:BN}(h:Zaa d i=some b):d.pool.tk i=true/\d.pool.has i=d.pool.nd i/\bnOf (d.pool.has i)=b:=by
 unfold Zaa Zal.get at h
 by_cases e:d.pool.tk i=true
 . rw[if_pos e] at h;refine⟨e,by unfold Zal.has;rw[if_pos e],?_⟩;unfold Zal.has;rw[if_pos e];simpa using h
 . rw[if_neg e] at h;cases h
theorem Zgh {d:Zad}{i:Nat}(h:Zaa d i=none):d.pool.tk i=false:=by
 unfold Zaa Zal.get at h
 by_cases e:d.pool.tk i=true
 . rw[if_pos e] at h;cases h
 . simpa using e
structure Acy (N:Nat->Option BN)(rk:Nat->Nat):Prop where
 none0:N 0=none
 okLo:∀ i b,N i=some b->okE N b.lo
 okHi:∀ i b,N i=some b->okE N b.hi
 ltLo:∀ i b c,N i=some b->N (b.lo/2)=some c->rk (b.lo/2)<rk i
 ltHi:∀ i b c,N i=some b->N (b.hi/2)=some c->rk (b.hi/2)<rk i
structure Zb9 (d:Zad)(ext:Nat->Int):Prop where
 cnt:Cnt d.pool.at_.length (Zaa d) (Zau d) ext
 dead:(d.dead:Int)=Zec d.pool.at_.length (Zaa d) (Zau d)
 has:∀ i b,Zaa d i=some b->i<d.counts.length
theorem Ziq {f:Nat->Int}{B:Int}:∀ (k:Nat),(∀ i,i<k->f i<=B)->Zas k f<=k*B
 | 0,_=>by simp[Zas]
 | k+1,h=>by
   have ih:=Ziq k (fun i hi=>h i (by omega));have h1:=h k (by omega);have:Zas (k+1) f=Zas k f+f k:=rfl;rw[this];have e:((k+1:Nat):Int)*B=k*B+B:=by rw[Int.natCast_add,Int.add_mul];simp
   omega
theorem Zzm (N:Nat->Option BN)(c:Nat->Nat)(x p:Nat):from1 N c x p<=2:=by
 unfold from1 Zdu toE;split
 ·split
  . split<;>split<;>omega
  . omega
 . omega
theorem Cnt.le {k:Nat}{N:Nat->Option BN}{c:Nat->Nat}{ext:Nat->Int}(h:Cnt k N c ext){x:Nat}{b:BN}(hx:N x=some b):(c x:Int)<=ext x+2*k:=by
 have h1:=h.eq x b hx;have h2:=Ziq (f:=from1 N c x) (B:=2) k (fun i _=>Zzm N c x i);omega
theorem Zd1 {d:Zad}{x v dd:Nat}(hx:x<d.counts.length):Zau (d.cd (d.counts.set x v) dd)=setC (Zau d) x v:=by
 funext i;unfold Zau setC Zad.cd;dsimp only
 by_cases e:i=x
 . subst e;simp[List.getD,hx]
 . simp only[List.getD,List.getElem?_set,if_neg (Ne.symm e),if_neg e]
section
variable {d:Zad}{ext:Nat->Int}{x:Nat}{b:BN}
theorem Zb9.congr (h:Zb9 d ext){ext':Nat->Int}(he:∀ x b,Zaa d x=some b->ext' x=ext x):Zb9 d ext':=⟨h.cnt.congr he,h.dead,h.has⟩
theorem Zb9.moreLive (h:Zb9 d ext)(hx:Zaa d x=some b)(hc:0<Zau d x):Zb9 (d.cd (d.counts.set x (Zau d x+1)) d.dead) (bump ext x 1):=by
 have hl:=h.has x b hx;refine⟨?_,?_,fun i b' hb=>by simpa [Zad.cd] using h.has i b' hb⟩
 . rw[Zd1 hl];exact h.cnt.moreLive hc
 ·rw[Zd1 hl]
  show (d.dead:Int)=Zec d.pool.at_.length (Zaa d) _
  rw[Zgu hx (h.cnt.lt x b hx),<- h.dead,if_neg (by omega),if_neg (by omega)];omega
theorem Zb9.moreDead (h:Zb9 d ext)(hx:Zaa d x=some b)(hc:Zau d x=0):0<d.dead/\Zb9 (d.cd (d.counts.set x 1) (d.dead-1)) (addE (addE (bump ext x 1) b.lo (-1)) b.hi (-1)):=by
 have hl:=h.has x b hx;have hk:=h.cnt.lt x b hx;have h1:=Zgu (c:=Zau d) (v:=1) hx hk;rw[if_neg (by omega),if_pos hc,<- h.dead] at h1;have h2:0<=Zec d.pool.at_.length (Zaa d) (setC (Zau d) x 1):=Zey _ fun i _=>Zjf _ _ i
 refine⟨by omega,?_,?_,fun i b' hb=>by simpa [Zad.cd] using h.has i b' hb⟩
 . rw[Zd1 hl];exact h.cnt.moreDead hx hc
 ·rw[Zd1 hl]
  show ((d.dead-1:Nat):Int)=Zec d.pool.at_.length (Zaa d) _
  rw[h1];omega
theorem Zb9.lessLive (h:Zb9 d ext)(hx:Zaa d x=some b)(hc:1<Zau d x):Zb9 (d.cd (d.counts.set x (Zau d x-1)) d.dead) (bump ext x (-1)):=by
 have hl:=h.has x b hx;refine⟨?_,?_,fun i b' hb=>by simpa [Zad.cd] using h.has i b' hb⟩
 . rw[Zd1 hl];exact h.cnt.lessLive hc
 ·rw[Zd1 hl]
  show (d.dead:Int)=Zec d.pool.at_.length (Zaa d) _
  rw[Zgu hx (h.cnt.lt x b hx),<- h.dead,if_neg (by omega),if_neg (by omega)];omega
theorem Zb9.lessDies (h:Zb9 d ext)(hx:Zaa d x=some b)(hc:Zau d x=1):Zb9 (d.cd (d.counts.set x 0) (d.dead+1)) (addE (addE (bump ext x (-1)) b.lo 1) b.hi 1):=by
 have hl:=h.has x b hx;have hk:=h.cnt.lt x b hx;have h1:=Zgu (c:=Zau d) (v:=0) hx hk;rw[if_pos rfl,if_neg (by omega),<- h.dead] at h1;refine⟨?_,?_,fun i b' hb=>by simpa [Zad.cd] using h.has i b' hb⟩
 . rw[Zd1 hl];exact h.cnt.lessDies hx hc
 ·rw[Zd1 hl]
  show ((d.dead+1:Nat):Int)=Zec d.pool.at_.length (Zaa d) _
  rw[h1];omega
end
def RCnt (r:Role):Prop:=r=.store\/r=.counts
section
variable {o:Own}{w:World}{sb:Nat}{d:Zad}{s:Za5}
theorem Zam.countsAt (h:Zam o w sb d s){x:Nat}(hx:x<d.counts.length):∃ gc cap,s.vc=.slice (some ⟨gc,0,none⟩) d.counts.length cap/\o gc=some .counts/\gc≠sb/\d.counts.length<=cap/\cap<=maxLen/\(∀ k,w.frozen? ⟨gc,k,none⟩=false) /\
 (∀ k,k<d.counts.length->w.cell? ⟨gc,k,none⟩=some (.int .i64 (Zau d k:Nat))):=by
 obtain⟨gc,cap,hv,ho,h1,h2⟩:=h.counts.shape (by omega);have hr:=h.counts;rw[hv] at hr;refine⟨gc,cap,hv,ho,fun e=>(by subst e;rw[h.own] at ho;cases ho),h1,h2,hr.frozen,fun k hk=>?_⟩;rw[hr.cell k (by simpa using hk),List.getElem?_map,List.getElem?_eq_getElem hk];simp[nat64,Zau,List.getD,hk]
theorem Zam.keepBut (h:Zam o w sb d s){d':Zad}{w':World}{g:Nat}(hg:o g=some .counts\/o g=some .store)(hk:∀ k,k≠g->w'.heap[k]?=w.heap[k]?)
 (hb:∃ dd cs,w'.heap[sb]?=some (.cells #[.pointer (some ⟨s.lb,0,none⟩),.pointer (some ⟨s.pb,0,none⟩),s.vt,s.vc,.int .i64 (dd:Nat)] 150 (0,0))/\RowR o w' .counts 3 1 s.vc cs.length (cs.map nat64)/\d'=d.cd cs dd):Zam o w' sb d' s:=by
 obtain⟨dd,cs,h1,h2,rfl⟩:=hb;have g0:∀ {b r},o b=some r->r ≠ .counts->r ≠ .store->b≠g:=fun hb hr g1 e=>by subst e;rcases hg with hg|hg<;>rw[hb] at hg<;>cases hg<;>contradiction
 exact⟨h.own,h.ownl,h1,(hk _ (g0 h.ownl (by simp) (by simp))).trans h.lev,h.vars.keep (fun b hb=>hk _ (g0 hb (by simp) (by simp))) (fun _ h=>h),h.level.keep (fun b hb=>hk _ (g0 hb (by simp) (by simp))) (fun _ h=>h),
  h.pool.keep (fun b r hb hr=>hk _ (g0 hb (by rcases hr with rfl|rfl|rfl|rfl<;>simp) (by rcases hr with rfl|rfl|rfl|rfl<;>simp))) (fun _ _ h=>h),
  h.tabs.keep (fun b hb=>hk _ (g0 hb (by simp) (by simp))) (fun _ h=>h),
  fun v hv=>(h.tab v hv).keep (fun b r hb hr=>hk _ (g0 hb (by rcases hr with rfl|rfl<;>simp) (by rcases hr with rfl|rfl<;>simp))) (fun _ _ h=>h),h2,h.len,h.tlen⟩
theorem Zam.setCount (h:Zam o w sb d s){gc cap:Nat}(hv:s.vc=.slice (some ⟨gc,0,none⟩) d.counts.length cap)(hne:gc≠sb)(x v:Nat):Zam o (w.setCell ⟨gc,x,none⟩ (.int .i64 v)) sb (d.cd (d.counts.set x v) d.dead) s:=by
 have hr:=h.counts;rw[hv] at hr;refine h.keepBut (g:=gc) (.inl hr.owner) (fun k hk=>Zaf hk _) ⟨d.dead,_,(Zaf (Ne.symm hne) _).trans h.blk,?_,rfl⟩;have:=hr.stored x (.int .i64 v);rw[hv,List.length_set,List.map_set];exact this
theorem Zam.setDead (h:Zam o w sb d s)(hlt:Zah o w)(dd:Nat):Zam o (w.setCell ⟨sb,4,none⟩ (.int .i64 dd)) sb (d.cd d.counts dd) s:=by
 refine h.keepBut (g:=sb) (.inr h.own) (fun k hk=>Zaf hk _) ⟨dd,d.counts,?_,?_,rfl⟩
 . exact Zac (k:=4) h.blk _
 . exact h.counts.keep (fun b hb=>Zaf (fun e=>by have e':b=sb:=e;subst e';rw[h.own] at hb;cases hb) _) (fun _ h=>h)
end
open Go.RowKit
theorem Zfd {fn:Func}(h:fn.results=#[])(tmps:Array Value)(P:Program)(w:World):(results fn tmps).run P w=.ok (.tuple #[]) w:=by simp[results,h]
def Zbc (o:Own)(w:World)(sb:Nat)(d:Zad)(s:Za5)(rk:Nat->Nat)(m:Nat)(less:Bool)(ext':Nat->Int)(e:Ending)(w':World):Prop :=
 ∃ cs dd,e=.returned (.tuple #[])/\Zam o w' sb (d.cd cs dd) s/\Zb9 (d.cd cs dd) ext'/\cs.length=d.counts.length/\(∀ i,m<=rk i->cs.getD i 0=d.counts.getD i 0)/\(less=true->∀ i,cs.getD i 0<=d.counts.getD i 0)/\Chg RCnt o o w w'
structure Zos (o:Own)(w:World)(sb:Nat)(d:Zad)(s:Za5)(rk:Nat->Nat)(ext:Nat->Int)(f:Nat)(m:Nat):Prop where
 st:Zam o w sb d s
 lt:Zah o w
 acy:Acy (Zaa d) rk
 ok:okE (Zaa d) f
 live:Zb9 d ext
 top:∀ y b,Zaa d y=some b->ext y+toE f y<=1099511627776
 low:f/2=0\/rk (f/2)<m
structure Zoq (o:Own)(w:World)(sb:Nat)(d:Zad)(s:Za5)(rk:Nat->Nat)(ext:Nat->Int)(f:Nat)(m:Nat):Prop where
 st:Zam o w sb d s
 lt:Zah o w
 acy:Acy (Zaa d) rk
 ok:okE (Zaa d) f
 live:Zb9 d ext
 top:∀ y b,Zaa d y=some b->Zau d y<=2199023255552
 pos:∀ y b,Zaa d y=some b->0<=ext y-toE f y
 low:f/2=0\/rk (f/2)<m
theorem Zam.tk_lt {o:Own}{w:World}{sb:Nat}{d:Zad}{s:Za5}(h:Zam o w sb d s){i:Nat}{b:BN}(hi:Zaa d i=some b):0<i/\i<d.pool.at_.length/\d.pool.at_.length<=1048577:=by
 have h1:=h.pool.tk_lt (Za1 hi).1;have h2:=h.pool.top;have h3:=h.pool.room;omega
theorem Zam.edge_lt {o:Own}{w:World}{sb:Nat}{d:Zad}{s:Za5}(h:Zam o w sb d s){f:Nat}(hf:okE (Zaa d) f):f<2097156:=by
 rcases hf with h0|⟨b,hb⟩
 . omega
 . have:=h.tk_lt hb;omega
theorem Zou {ext:Nat->Int}{f:Nat}:addE ext f 1=bump ext (f/2) 1:=by
 funext y;unfold addE bump toE
 by_cases e:f/2=y
 . subst e;simp
 . simp[e,Ne.symm e]
theorem Zl6 {ext:Nat->Int}{f:Nat}:addE ext f (-1)=bump ext (f/2) (-1):=by
 funext y;unfold addE bump toE
 by_cases e:f/2=y
 . subst e;simp
 . simp[e,Ne.symm e]
theorem Zxo {o:Own}{w:World}{sb:Nat}{d:Zad}{s:Za5}{rk:Nat->Nat}{ext:Nat->Int}{f m:Nat}(h:Zos o w sb d s rk ext f m){b:BN}(hx:Zaa d (enode f)=some b)(hc:0<Zau d (enode f)) :
 Calls prog 223 #[.pointer (some ⟨sb,0,none⟩),.int .i64 f] w (Zbc o w sb d s rk m false (addE ext f 1)):=by
 have gk:=h.st.edge_lt h.ok;have hf:f<eMax:=by unfold eMax;omega
 have g5:=h.live.has _ _ hx;obtain⟨gc,cap,hv,ga,g9,gi,gf,gd,g4⟩:=h.st.countsAt g5;obtain⟨c0,c1,c2,c3,c4,f0⟩:=cells5 h.st.blk;rw[hv] at c3;have ge:=g4 _ g5;have gj:=gd (enode f);have gr:=h.live.cnt.le hx;have g6:=h.top _ _ hx;rw[show toE f (enode f)=1 from Zja f] at g6;have gl:=h.st.tk_lt hx;have g8:=h.st.tk_lt hx;have g3:Hid (∀ i,m<=rk i->(d.counts.set (enode f) (Zau d (enode f)+1)).getD i 0=d.counts.getD i 0):=fun i hi=>by
  have:enode f≠i:=by
   rintro rfl;rcases h.low with h0|h0
   . have:enode f=0:=h0;omega
   . have e:f/2=enode f:=rfl;rw[e] at h0;omega
  simp only[List.getD,List.getElem?_set,if_neg this]
 have g7:Hid (false=true->∀ i,(d.counts.set (enode f) (Zau d (enode f)+1)).getD i 0<=d.counts.getD i 0):=fun e=>(by cases e)
 have g0:Hid (Zam o (w.setCell ⟨gc,enode f,none⟩ (.int .i64 ((Zau d (enode f)+1:Nat):Int))) sb (d.cd (d.counts.set (enode f) (Zau d (enode f)+1)) d.dead) s/\Zb9 (d.cd (d.counts.set (enode f) (Zau d (enode f)+1)) d.dead) (addE ext f 1)) :=
  ⟨h.st.setCount hv g9 _ _,by rw[Zou];exact h.live.moreLive hx hc⟩
 have g1:=Hd ((Chg.refl RCnt o w).setCell (p:=⟨gc,enode f,none⟩) ga (.inr rfl) (.int .i64 ((Zau d (enode f)+1:Nat):Int)));rw[show ((Zau d (enode f)+1:Nat):Int)=(Zau d (enode f):Nat)+1 from by omega] at g0 g1;have g2:((enode f:Nat):Int)≠0:=by have:=g8.1;omega
 have HN:=Hd (fun W=>Zb2 f W hf);have gm:sb≠gc:=fun e=>g9 e.symm
 have gh:((enode f:Nat):Int)<d.counts.length:=by omega
 obtain⟨k,hk⟩:∃ k,k=enode f:=⟨_,rfl⟩;obtain⟨c,gg⟩:∃ c,c=Zau d (enode f):=⟨_,rfl⟩;have go:c<=2199023255552:=by omega
 have gu:0<c:=by omega
 rw[<- gg] at ge g0 g1 g3 g7;rw[<- hk] at ge gj g0 g1 g2 HN gh g3 g7;have gq:((k:Int) == 0)=false:=by simpa using g2
 have gp:0<k:=by omega
 have gn:d.counts.length<=9223372036854775807:=by unfold maxLen at gf;omega
 have gt:(1:Int)<(c:Int)+1:=by omega
 clear h hx hc hv ga gi gf gd g4 hk gg g6 g8 g2 g5 gk hf
 go_enter func223,ntmps223
 go_wp2_with fail;refine(HN.out _).mono ?_;rintro x w' ⟨rfl,rfl⟩;go_wp2_with fail;refine bodyPost_ret (Zfd rfl _ _ _) rfl ⟨_,_,rfl,g0.out.1,g0.out.2,by simp,g3.out,(fun e=>by first|exact absurd e (by decide)|exact g7.out (by simp)),g1.out⟩
theorem Zxp {o:Own}{w:World}{sb:Nat}{d:Zad}{s:Za5}{rk:Nat->Nat}{ext:Nat->Int}{f m:Nat}(h:Zos o w sb d s rk ext f m)(hx:enode f=0) :
 Calls prog 223 #[.pointer (some ⟨sb,0,none⟩),.int .i64 f] w (Zbc o w sb d s rk m false (addE ext f 1)):=by
 have hf:f<eMax:=by have:=h.st.edge_lt h.ok;unfold eMax;omega
 have g0:Hid (Zbc o w sb d s rk m false (addE ext f 1) (.returned (.tuple #[])) w) :=
  ⟨d.counts,d.dead,rfl,h.st,h.live.congr (fun y b hb=>by
   have:y≠0:=by rintro rfl;rw[h.acy.none0] at hb;cases hb
   have e:f/2=0:=hx;simp[addE,toE,e,Ne.symm this]),rfl,fun _ _=>rfl,fun _ _=>Nat.le_refl _,Chg.refl _ _ _⟩
 have HN:=Hd (fun W=>Zb2 f W hf);rw[hx] at HN;clear h hx hf
 go_enter func223,ntmps223
 go_wp2_with fail;refine(HN.out _).mono ?_;rintro x w' ⟨rfl,rfl⟩;go_wp2_with fail;refine bodyPost_ret (Zfd rfl _ _ _) rfl g0.out
theorem Zxn {o:Own}{w:World}{sb:Nat}{d:Zad}{s:Za5}{rk:Nat->Nat}{ext:Nat->Int}{f m:Nat}(h:Zos o w sb d s rk ext f (m+1)){b:BN}(hx:Zaa d (enode f)=some b)(hc:Zau d (enode f)=0)
 (ih:∀ w d ext f,Zos o w sb d s rk ext f m->Calls prog 223 #[.pointer (some ⟨sb,0,none⟩),.int .i64 f] w (Zbc o w sb d s rk m false (addE ext f 1))) :
 Calls prog 223 #[.pointer (some ⟨sb,0,none⟩),.int .i64 f] w (Zbc o w sb d s rk (m+1) false (addE ext f 1)):=by
 have gT:=h.st.edge_lt h.ok;have hf:f<eMax:=by unfold eMax;omega
 have gd:=h.live.has _ _ hx;obtain⟨gc,cap,hv,gu,gg,gP,gB,gv,g5⟩:=h.st.countsAt gd;obtain⟨c0,c1,c2,c3,c4,f0⟩:=cells5 h.st.blk;rw[hv] at c3;have gh:=g5 _ gd;have gw:=gv (enode f);have gq:=h.st.tk_lt hx;obtain⟨gy,gr⟩:=h.live.moreDead hx hc;have gA:d.dead<=1048577:=by
  have h1:=h.live.dead;have h2:=Ziq (f:=dead1 (Zaa d) (Zau d)) (B:=1) d.pool.at_.length (fun i _=>by unfold dead1;split<;>first|omega|(split<;>omega));have h3:Zec d.pool.at_.length (Zaa d) (Zau d)=Zas d.pool.at_.length (dead1 (Zaa d) (Zau d)):=rfl;omega
 have gX:=Hd h.lt;have gn:∀ i,m+1<=rk i->(d.counts.set (enode f) 1).getD i 0=d.counts.getD i 0:=fun i hi=>by
  have:enode f≠i:=by
   rintro rfl;rcases h.low with h0|h0
   . have:enode f=0:=h0;omega
   . have e:f/2=enode f:=rfl;rw[e] at h0;omega
  simp only[List.getD,List.getElem?_set,if_neg this]
 have gD:false=true->∀ i,(d.counts.set (enode f) 1).getD i 0<=d.counts.getD i 0:=fun e=>(by cases e)
 have gN:rk (enode f)<=m:=by
  rcases h.low with h0|h0
  . have:enode f=0:=h0;omega
  . have e:f/2=enode f:=rfl;rw[e] at h0;omega
 have g3:∀ e,(okE (Zaa d) e)->(∀ c,Zaa d (e/2)=some c->rk (e/2)<rk (enode f))->e/2=0\/rk (e/2)<m:=fun e ho hr=>by
  rcases ho with h0|⟨c,hc⟩
  . exact .inl h0
  . exact .inr (by have:=hr c hc;omega)
 have st1:Zam o (w.setCell ⟨gc,enode f,none⟩ (.int .i64 ((1:Nat):Int))) sb (d.cd (d.counts.set (enode f) 1) d.dead) s:=h.st.setCount hv gg _ _;have g2:Zah o (w.setCell ⟨gc,enode f,none⟩ (.int .i64 ((1:Nat):Int))):=h.lt.mono (by simp[World.setCell]);have st2:Zam o ((w.setCell ⟨gc,enode f,none⟩ (.int .i64 ((1:Nat):Int))).setCell ⟨sb,4,none⟩ (.int .i64 ((d.dead-1:Nat):Int))) sb (d.cd (d.counts.set (enode f) 1) (d.dead-1)) s:=st1.setDead g2 _;have go:=Hd (((Chg.refl RCnt o w).setCell (p:=⟨gc,enode f,none⟩) gu (.inr rfl) (.int .i64 ((1:Nat):Int))).setCell (p:=⟨sb,4,none⟩) h.st.own (.inl rfl) (.int .i64 ((d.dead-1:Nat):Int)));have g0:Zah o ((w.setCell ⟨gc,enode f,none⟩ (.int .i64 ((1:Nat):Int))).setCell ⟨sb,4,none⟩ (.int .i64 ((d.dead-1:Nat):Int))):=g2.mono (by simp[World.setCell]);have gf:=Za1 hx;have gU:∃ N,N=d.pool.has (enode f)/\N.lo=b.lo/\N.hi=b.hi:=⟨_,rfl,by rw[<- gf.2.2];rfl,by rw[<- gf.2.2];rfl⟩;have gx:addE (addE (addE (addE (bump ext (enode f) 1) b.lo (-1)) b.hi (-1)) b.lo 1) b.hi 1=addE ext f 1:=by
  funext y;have h1:=congrFun (Zou (ext:=ext) (f:=f)) y;have h2:enode f=f/2:=rfl;rw[h2,h1];simp only[addE];omega
 obtain⟨W2,gk⟩:∃ W,W=(w.setCell ⟨gc,enode f,none⟩ (.int .i64 ((1:Nat):Int))).setCell ⟨sb,4,none⟩ (.int .i64 ((d.dead-1:Nat):Int)):=⟨_,rfl⟩;rw[<- gk] at st2 go g0;have gK:=Hd g0;have g1:Hid (∀ W:World,Below W2.heap.size W2 W->Calls prog 228 #[.pointer (some ⟨s.pb,0,none⟩),.int .i64 (enode f:Nat)] W fun x w'=>x=.returned (.tuple #[Zaz (d.pool.has (enode f)),.bool (d.pool.tk (enode f))])/\Below W.heap.size W w') :=
  Hd (fun W hb=>Zcx o s.pb d.pool (enode f) W (st2.pool.below hb g0) (g0.mono hb.size))
 have h5:Hid (∀ W:World,Below W2.heap.size W2 W->W.cell? ⟨sb,1,none⟩=some (.pointer (some ⟨s.pb,0,none⟩))):=Hd (fun W hb=>(cells5 (st2.below g0 hb).blk).2.1);have gC:Hid (∀ W:World,Below W2.heap.size W2 W->Calls prog 223 #[.pointer (some ⟨sb,0,none⟩),.int .i64 (b.lo:Nat)] W (Zbc o W sb (d.cd (d.counts.set (enode f) 1) (d.dead-1)) s rk m false (addE (addE (addE (bump ext (enode f) 1) b.lo (-1)) b.hi (-1)) b.lo 1))) :=
  Hd (fun W hb=>ih W _ _ b.lo ⟨st2.below g0 hb,g0.mono hb.size,h.acy,h.acy.okLo _ _ hx,gr,fun y q hq=>by
   have h1:=h.top y q hq;have h2:toE f y=if enode f=y then 1 else 0:=rfl
   have h3:=Zb0 b.lo y;have h4:=Zb0 b.hi y;simp only[addE,bump]
   by_cases e:y=enode f
   . rw[if_pos e.symm] at h2;rw[if_pos e];omega
   . rw[if_neg (Ne.symm e)] at h2;rw[if_neg e];omega,g3 b.lo (h.acy.okLo _ _ hx) (fun c hc=>h.acy.ltLo _ _ c hx hc)⟩)
 have gF:Hid (∀ (W:World) (cs:List Nat) (dd:Nat),Zam o W sb ((d.cd (d.counts.set (enode f) 1) (d.dead-1)).cd cs dd) s->Zb9 ((d.cd (d.counts.set (enode f) 1) (d.dead-1)).cd cs dd) (addE (addE (addE (bump ext (enode f) 1) b.lo (-1)) b.hi (-1)) b.lo 1)->(false=true->∀ i,cs.getD i 0<=(d.counts.set (enode f) 1).getD i 0)->Chg RCnt o o w W ->
  Calls prog 223 #[.pointer (some ⟨sb,0,none⟩),.int .i64 (b.hi:Nat)] W (Zbc o W sb ((d.cd (d.counts.set (enode f) 1) (d.dead-1)).cd cs dd) s rk m false (addE ext f 1))) :=
  Hd (fun W cs dd hs hl gt gi=>by
   rw[<- gx]
   exact ih W _ _ b.hi ⟨hs,gX.out.mono gi.size,h.acy,h.acy.okHi _ _ hx,hl,fun y q hq=>by
    have h1:=h.top y q hq;have h2:toE f y=if enode f=y then 1 else 0:=rfl
    have h3:=Zb0 b.lo y;have h4:=Zb0 b.hi y;simp only[addE,bump]
    by_cases e:y=enode f
    . rw[if_pos e.symm] at h2;rw[if_pos e];omega
    . rw[if_neg (Ne.symm e)] at h2;rw[if_neg e];omega,g3 b.hi (h.acy.okHi _ _ hx) (fun c hc=>h.acy.ltHi _ _ c hx hc)⟩)
 have gM:Hid (∀ (W:World) (cs:List Nat) (dd:Nat),Zam o W sb (d.cd cs dd) s->Zb9 (d.cd cs dd) (addE ext f 1)->cs.length=(d.counts.set (enode f) 1).length->(∀ i,m+1<=rk i->cs.getD i 0=(d.counts.set (enode f) 1).getD i 0)->(false=true->∀ i,cs.getD i 0<=(d.counts.set (enode f) 1).getD i 0)->Chg RCnt o o w W ->
  Zbc o w sb d s rk (m+1) false (addE ext f 1) (.returned (.tuple #[])) W) :=
  fun W cs dd hs hl gI gO gt gi=>⟨cs,dd,rfl,hs,hl,by rw[gI];simp,fun i hi=>(gO i hi).trans (gn i hi),fun e i=>Nat.le_trans (gt e i) (gD e i),gi⟩
 have g9:Hid (W2=(w.setCell ⟨gc,enode f,none⟩ (.int .i64 1)).setCell ⟨sb,4,none⟩ (.int .i64 ((d.dead:Int)-1))):=by
  show _=_
  rw[gk,show ((d.dead-1:Nat):Int)=(d.dead:Int)-1 from by omega];rfl
 have g4:((enode f:Nat):Int)≠0:=by have:=gq.1;omega
 have HN:=Hd (fun W=>Zb2 f W hf);have gH:sb≠gc:=fun e=>gg e.symm
 have ga:((enode f:Nat):Int)<d.counts.length:=by omega
 obtain⟨N,hN,gl,gm⟩:=gU;rw[<- hN] at g1;rw[<- gl,<- gm] at gC gF;obtain⟨B,hB⟩:∃ B,B=d.pool.tk (enode f):=⟨_,rfl⟩;rw[<- hB] at g1;rw[hc] at gh;obtain⟨k,hk⟩:∃ k,k=enode f:=⟨_,rfl⟩;rw[<- hk] at gh gw g1 g4 HN ga g9;have gR:((k:Int) == 0)=false:=by simpa using g4
 have gQ:0<k:=by omega
 have gJ:d.counts.length<=9223372036854775807:=by unfold maxLen at gB;omega
 obtain⟨dn,gz⟩:∃ n,n=d.dead:=⟨_,rfl⟩;rw[<- gz] at c4 gA g9 gy;clear ih h hx hc hv gu gP gB gv g5 gq g4 gd gT hf gr st1 st2 g2 g0 gn gD gN g3 gk gx hN gl gm hB gz gf hk
 go_enter func223,ntmps223
 go_wp2_with fail;refine(HN.out _).mono ?_;rintro x w' ⟨rfl,rfl⟩;go_wp2_with fail;rw[<- g9.out];refine(g1.out W2 (Below.refl _ _)).mono ?_;rintro x v2 ⟨rfl,g7⟩;unfold Zaz;clear g9 c0 c1 c2 c3 c4 f0 gh gw HN gg gH ga gR gQ gJ gA gy;go_wp2_with fail;obtain⟨W3,g8⟩:∃ W,W=v2.alloc (.cells #[.int .i64 N.id,.int .i64 N.v,.int .i64 N.lo,.int .i64 N.hi,.int .i64 N.refs] 254):=⟨_,rfl⟩;obtain⟨bx,g6⟩:∃ bx,bx=v2.heap.size:=⟨_,rfl⟩;have gS:W2.heap.size<=bx:=by rw[g6];exact g7.size
 have gj:Below W2.heap.size W2 W3:=by rw[g8];exact g7.alloc g7.size _
 have ge:W3.heap[bx]?=some (.cells #[.int .i64 N.id,.int .i64 N.v,.int .i64 N.lo,.int .i64 N.hi,.int .i64 N.refs] 254 (0,0)):=by rw[g8,g6];exact heap_alloc_new v2 _
 rw[<- g8];rw[<- g6];clear g8 g6 g7 g1 h5;refine(gC.out _ gj).mono ?_;rintro x w1 ⟨cs1,dd1,rfl,st1,lv1,len1,low1,le1,chg1⟩;have gp:=(chg1.alien (Array.getElem?_eq_some_iff.1 ge).1 (gK.out.none gS)).trans ge;obtain⟨z0,z1,z2,z3,z4,zz⟩:=cells5 gp;have gV:=Hd st1;have gY:=Hd lv1;have gZ:=Hd len1;have HW1:=Hd low1;have gE:=Hd le1;have gG:=Hd ((go.out.trans (Chg.of_below gj RCnt o)).trans chg1);clear st1 lv1 len1 low1 le1 chg1 ge gp gj;go_wp2_with fail;refine(gF.out w1 cs1 dd1 gV.out gY.out (fun e=>by first|exact absurd e (by decide)|exact gE.out (by simp)) gG.out).mono ?_;rintro x w2 ⟨cs2,dd2,rfl,st2,lv2,len2,low2,le2,chg2⟩;have gL:=Hd (gM.out w2 cs2 dd2 st2 lv2 (len2.trans gZ.out) (fun i hi=>(low2 i (by omega)).trans (HW1.out i (by omega))) (fun e i=>by first|exact absurd e (by decide)|exact Nat.le_trans (le2 (by simp) i) (gE.out (by simp) i)) (gG.out.trans chg2));clear st2 lv2 len2 low2 le2 chg2;go_wp2_with fail;refine bodyPost_end (Zfd rfl _ _ _) rfl gL.out
theorem Zfy (o:Own)(sb:Nat)(s:Za5)(rk:Nat->Nat):∀ (m:Nat) (w:World) (d:Zad) (ext:Nat->Int) (f:Nat),Zos o w sb d s rk ext f m ->
 Calls prog 223 #[.pointer (some ⟨sb,0,none⟩),.int .i64 f] w (Zbc o w sb d s rk m false (addE ext f 1))
 | m,w,d,ext,f,h=>by
   by_cases h0:enode f=0
   . exact Zxp h h0
   ·obtain⟨b,hx⟩:∃ b,Zaa d (enode f)=some b:=h.ok.resolve_left h0
    by_cases hc:0<Zau d (enode f)
    . exact Zxo h hx hc
    ·cases m with
     | zero=>exact absurd (h.low.resolve_left h0) (by omega)
     | succ m=>exact Zxn h hx (by omega) (Zfy o sb s rk m)
open Go.RowKit
theorem Zxe {o:Own}{w:World}{sb:Nat}{d:Zad}{s:Za5}{rk:Nat->Nat}{ext:Nat->Int}{f m:Nat}(h:Zoq o w sb d s rk ext f m){b:BN}(hx:Zaa d (enode f)=some b)(hc:1<Zau d (enode f)) :
 Calls prog 226 #[.pointer (some ⟨sb,0,none⟩),.int .i64 f] w (Zbc o w sb d s rk m true (addE ext f (-1))):=by
 have gk:=h.st.edge_lt h.ok;have hf:f<eMax:=by unfold eMax;omega
 have g4:=h.live.has _ _ hx;obtain⟨gc,cap,hv,g9,g8,gi,ge,ga,g5⟩:=h.st.countsAt g4;obtain⟨c0,c1,c2,c3,c4,f0⟩:=cells5 h.st.blk;rw[hv] at c3;have gd:=g5 _ g4;have gj:=ga (enode f);have gh:=h.top (enode f) _ hx;have g7:=h.st.tk_lt hx;have g3:Hid (∀ i,m<=rk i->(d.counts.set (enode f) (Zau d (enode f)-1)).getD i 0=d.counts.getD i 0):=fun i hi=>by
  have:enode f≠i:=by
   rintro rfl;rcases h.low with h0|h0
   . have:enode f=0:=h0;omega
   . have e:f/2=enode f:=rfl;rw[e] at h0;omega
  simp only[List.getD,List.getElem?_set,if_neg this]
 have g6:Hid (true=true->∀ i,(d.counts.set (enode f) (Zau d (enode f)-1)).getD i 0<=d.counts.getD i 0):=fun _ i=>by
  by_cases e:enode f=i
  . subst e;simp only[List.getD,List.getElem?_set];simp[g4,Zau,List.getD]
  . simp only[List.getD,List.getElem?_set,if_neg e];omega
 have g0:Hid (Zam o (w.setCell ⟨gc,enode f,none⟩ (.int .i64 ((Zau d (enode f)-1:Nat):Int))) sb (d.cd (d.counts.set (enode f) (Zau d (enode f)-1)) d.dead) s/\Zb9 (d.cd (d.counts.set (enode f) (Zau d (enode f)-1)) d.dead) (addE ext f (-1))) :=
  ⟨h.st.setCount hv g8 _ _,by rw[Zl6];exact h.live.lessLive hx hc⟩
 have g1:=Hd ((Chg.refl RCnt o w).setCell (p:=⟨gc,enode f,none⟩) g9 (.inr rfl) (.int .i64 ((Zau d (enode f)-1:Nat):Int)));rw[show ((Zau d (enode f)-1:Nat):Int)=(Zau d (enode f):Nat)-1 from by omega] at g0 g1;have g2:((enode f:Nat):Int)≠0:=by have:=g7.1;omega
 have HN:=Hd (fun W=>Zb2 f W hf);have gl:sb≠gc:=fun e=>g8 e.symm
 have gg:((enode f:Nat):Int)<d.counts.length:=by omega
 obtain⟨k,hk⟩:∃ k,k=enode f:=⟨_,rfl⟩;obtain⟨c,gf⟩:∃ c,c=Zau d (enode f):=⟨_,rfl⟩;have gn:c<=2199023255552:=by omega
 have gr:1<c:=by omega
 rw[<- gf] at gd g0 g1 g3 g6;rw[<- hk] at gd gj g0 g1 g2 HN gg g3 g6;have gp:((k:Int) == 0)=false:=by simpa using g2
 have go:0<k:=by omega
 have gm:d.counts.length<=9223372036854775807:=by unfold maxLen at ge;omega
 have gq:(1:Int)<(c:Int):=by omega
 clear h hx hc hv g9 gi ge ga g5 hk gf gh g7 g2 g4 gk hf
 go_enter func226,ntmps226
 go_wp2_with fail;refine(HN.out _).mono ?_;rintro x w' ⟨rfl,rfl⟩;go_wp2_with fail;refine bodyPost_ret (Zfd rfl _ _ _) rfl ⟨_,_,rfl,g0.out.1,g0.out.2,by simp,g3.out,(fun e=>by first|exact absurd e (by decide)|exact g6.out (by simp)),g1.out⟩
theorem Zxf {o:Own}{w:World}{sb:Nat}{d:Zad}{s:Za5}{rk:Nat->Nat}{ext:Nat->Int}{f m:Nat}(h:Zoq o w sb d s rk ext f m)(hx:enode f=0) :
 Calls prog 226 #[.pointer (some ⟨sb,0,none⟩),.int .i64 f] w (Zbc o w sb d s rk m true (addE ext f (-1))):=by
 have hf:f<eMax:=by have:=h.st.edge_lt h.ok;unfold eMax;omega
 have g0:Hid (Zbc o w sb d s rk m true (addE ext f (-1)) (.returned (.tuple #[])) w) :=
  ⟨d.counts,d.dead,rfl,h.st,h.live.congr (fun y b hb=>by
   have:y≠0:=by rintro rfl;rw[h.acy.none0] at hb;cases hb
   have e:f/2=0:=hx;simp[addE,toE,e,Ne.symm this]),rfl,fun _ _=>rfl,fun _ _=>Nat.le_refl _,Chg.refl _ _ _⟩
 have HN:=Hd (fun W=>Zb2 f W hf);rw[hx] at HN;clear h hx hf
 go_enter func226,ntmps226
 go_wp2_with fail;refine(HN.out _).mono ?_;rintro x w' ⟨rfl,rfl⟩;go_wp2_with fail;refine bodyPost_ret (Zfd rfl _ _ _) rfl g0.out
theorem Zxd {o:Own}{w:World}{sb:Nat}{d:Zad}{s:Za5}{rk:Nat->Nat}{ext:Nat->Int}{f m:Nat}(h:Zoq o w sb d s rk ext f (m+1)){b:BN}(hx:Zaa d (enode f)=some b)(hc:Zau d (enode f)=1)
 (ih:∀ w d ext f,Zoq o w sb d s rk ext f m->Calls prog 226 #[.pointer (some ⟨sb,0,none⟩),.int .i64 f] w (Zbc o w sb d s rk m true (addE ext f (-1)))) :
 Calls prog 226 #[.pointer (some ⟨sb,0,none⟩),.int .i64 f] w (Zbc o w sb d s rk (m+1) true (addE ext f (-1))):=by
 have gS:=h.st.edge_lt h.ok;have hf:f<eMax:=by unfold eMax;omega
 have g5:=h.live.has _ _ hx;obtain⟨gc,cap,hv,gv,gh,gO,gB,gw,g6⟩:=h.st.countsAt g5;obtain⟨c0,c1,c2,c3,c4,f0⟩:=cells5 h.st.blk;rw[hv] at c3;have gj:=g6 _ g5;have gx:=gw (enode f);have gt:=h.st.tk_lt hx;have gu:=h.live.lessDies hx hc;have gA:d.dead<=1048577:=by
  have h1:=h.live.dead;have h2:=Ziq (f:=dead1 (Zaa d) (Zau d)) (B:=1) d.pool.at_.length (fun i _=>by unfold dead1;split<;>first|omega|(split<;>omega));have h3:Zec d.pool.at_.length (Zaa d) (Zau d)=Zas d.pool.at_.length (dead1 (Zaa d) (Zau d)):=rfl;omega
 have gV:=Hd h.lt;have gp:∀ i,m+1<=rk i->(d.counts.set (enode f) 0).getD i 0=d.counts.getD i 0:=fun i hi=>by
  have:enode f≠i:=by
   rintro rfl;rcases h.low with h0|h0
   . have:enode f=0:=h0;omega
   . have e:f/2=enode f:=rfl;rw[e] at h0;omega
  simp only[List.getD,List.getElem?_set,if_neg this]
 have gd:true=true->∀ i,(d.counts.set (enode f) 0).getD i 0<=d.counts.getD i 0:=fun _ i=>by
  by_cases e:enode f=i
  . subst e;simp only[List.getD,List.getElem?_set];simp[g5]
  . simp only[List.getD,List.getElem?_set,if_neg e];omega
 have gM:rk (enode f)<=m:=by
  rcases h.low with h0|h0
  . have:enode f=0:=h0;omega
  . have e:f/2=enode f:=rfl;rw[e] at h0;omega
 have g3:∀ e,(okE (Zaa d) e)->(∀ c,Zaa d (e/2)=some c->rk (e/2)<rk (enode f))->e/2=0\/rk (e/2)<m:=fun e ho hr=>by
  rcases ho with h0|⟨c,hc⟩
  . exact .inl h0
  . exact .inr (by have:=hr c hc;omega)
 have st1:Zam o (w.setCell ⟨gc,enode f,none⟩ (.int .i64 ((0:Nat):Int))) sb (d.cd (d.counts.set (enode f) 0) d.dead) s:=h.st.setCount hv gh _ _;have g2:Zah o (w.setCell ⟨gc,enode f,none⟩ (.int .i64 ((0:Nat):Int))):=h.lt.mono (by simp[World.setCell]);have st2:Zam o ((w.setCell ⟨gc,enode f,none⟩ (.int .i64 ((0:Nat):Int))).setCell ⟨sb,4,none⟩ (.int .i64 ((d.dead+1:Nat):Int))) sb (d.cd (d.counts.set (enode f) 0) (d.dead+1)) s:=st1.setDead g2 _;have gq:=Hd (((Chg.refl RCnt o w).setCell (p:=⟨gc,enode f,none⟩) gv (.inr rfl) (.int .i64 ((0:Nat):Int))).setCell (p:=⟨sb,4,none⟩) h.st.own (.inl rfl) (.int .i64 ((d.dead+1:Nat):Int)));have g0:Zah o ((w.setCell ⟨gc,enode f,none⟩ (.int .i64 ((0:Nat):Int))).setCell ⟨sb,4,none⟩ (.int .i64 ((d.dead+1:Nat):Int))):=g2.mono (by simp[World.setCell]);have gg:=Za1 hx;have gT:∃ N,N=d.pool.has (enode f)/\N.lo=b.lo/\N.hi=b.hi:=⟨_,rfl,by rw[<- gg.2.2];rfl,by rw[<- gg.2.2];rfl⟩;have gy:addE (addE (addE (addE (bump ext (enode f) (-1)) b.lo 1) b.hi 1) b.lo (-1)) b.hi (-1)=addE ext f (-1):=by
  funext y;have h1:=congrFun (Zl6 (ext:=ext) (f:=f)) y;have h2:enode f=f/2:=rfl;rw[h2,h1];simp only[addE];omega
 obtain⟨W2,gm⟩:∃ W,W=(w.setCell ⟨gc,enode f,none⟩ (.int .i64 ((0:Nat):Int))).setCell ⟨sb,4,none⟩ (.int .i64 ((d.dead+1:Nat):Int)):=⟨_,rfl⟩;rw[<- gm] at st2 gq g0;have gJ:=Hd g0;have g1:Hid (∀ W:World,Below W2.heap.size W2 W->Calls prog 228 #[.pointer (some ⟨s.pb,0,none⟩),.int .i64 (enode f:Nat)] W fun x w'=>x=.returned (.tuple #[Zaz (d.pool.has (enode f)),.bool (d.pool.tk (enode f))])/\Below W.heap.size W w') :=
  Hd (fun W hb=>Zcx o s.pb d.pool (enode f) W (st2.pool.below hb g0) (g0.mono hb.size))
 have gZ:Hid (∀ W:World,Below W2.heap.size W2 W->W.cell? ⟨sb,1,none⟩=some (.pointer (some ⟨s.pb,0,none⟩))):=Hd (fun W hb=>(cells5 (st2.below g0 hb).blk).2.1);have gC:Hid (∀ W:World,Below W2.heap.size W2 W->Calls prog 226 #[.pointer (some ⟨sb,0,none⟩),.int .i64 (b.lo:Nat)] W (Zbc o W sb (d.cd (d.counts.set (enode f) 0) (d.dead+1)) s rk m true (addE (addE (addE (bump ext (enode f) (-1)) b.lo 1) b.hi 1) b.lo (-1)))) :=
  Hd (fun W hb=>ih W _ _ b.lo ⟨st2.below g0 hb,g0.mono hb.size,h.acy,h.acy.okLo _ _ hx,gu,fun y q hq=>Nat.le_trans (gd rfl y) (h.top y q hq),fun y q hq=>by
   have h1:=h.pos y q hq;have h2:toE f y=if enode f=y then 1 else 0:=rfl
   have h3:=Zb0 b.lo y;have h4:=Zb0 b.hi y;simp only[addE,bump]
   by_cases e:y=enode f
   . rw[if_pos e.symm] at h2;rw[if_pos e];omega
   . rw[if_neg (Ne.symm e)] at h2;rw[if_neg e];omega,g3 b.lo (h.acy.okLo _ _ hx) (fun c hc=>h.acy.ltLo _ _ c hx hc)⟩)
 have gE:Hid (∀ (W:World) (cs:List Nat) (dd:Nat),Zam o W sb ((d.cd (d.counts.set (enode f) 0) (d.dead+1)).cd cs dd) s->Zb9 ((d.cd (d.counts.set (enode f) 0) (d.dead+1)).cd cs dd) (addE (addE (addE (bump ext (enode f) (-1)) b.lo 1) b.hi 1) b.lo (-1))->(true=true->∀ i,cs.getD i 0<=(d.counts.set (enode f) 0).getD i 0)->Chg RCnt o o w W ->
  Calls prog 226 #[.pointer (some ⟨sb,0,none⟩),.int .i64 (b.hi:Nat)] W (Zbc o W sb ((d.cd (d.counts.set (enode f) 0) (d.dead+1)).cd cs dd) s rk m true (addE ext f (-1)))) :=
  Hd (fun W cs dd hs hl gi gk=>by
   rw[<- gy]
   exact ih W _ _ b.hi ⟨hs,gV.out.mono gk.size,h.acy,h.acy.okHi _ _ hx,hl,fun y q hq=>Nat.le_trans (Nat.le_trans (gi rfl y) (gd rfl y)) (h.top y q hq),fun y q hq=>by
    have h1:=h.pos y q hq;have h2:toE f y=if enode f=y then 1 else 0:=rfl
    have h3:=Zb0 b.lo y;have h4:=Zb0 b.hi y;simp only[addE,bump]
    by_cases e:y=enode f
    . rw[if_pos e.symm] at h2;rw[if_pos e];omega
    . rw[if_neg (Ne.symm e)] at h2;rw[if_neg e];omega,g3 b.hi (h.acy.okHi _ _ hx) (fun c hc=>h.acy.ltHi _ _ c hx hc)⟩)
 have gL:Hid (∀ (W:World) (cs:List Nat) (dd:Nat),Zam o W sb (d.cd cs dd) s->Zb9 (d.cd cs dd) (addE ext f (-1))->cs.length=(d.counts.set (enode f) 0).length->(∀ i,m+1<=rk i->cs.getD i 0=(d.counts.set (enode f) 0).getD i 0)->(true=true->∀ i,cs.getD i 0<=(d.counts.set (enode f) 0).getD i 0)->Chg RCnt o o w W ->
  Zbc o w sb d s rk (m+1) true (addE ext f (-1)) (.returned (.tuple #[])) W) :=
  fun W cs dd hs hl gH gN gi gk=>⟨cs,dd,rfl,hs,hl,by rw[gH];simp,fun i hi=>(gN i hi).trans (gp i hi),fun e i=>Nat.le_trans (gi e i) (gd e i),gk⟩
 have ga:Hid (W2=(w.setCell ⟨gc,enode f,none⟩ (.int .i64 0)).setCell ⟨sb,4,none⟩ (.int .i64 ((d.dead:Int)+1))):=by
  show _=_
  rw[gm,show ((d.dead+1:Nat):Int)=(d.dead:Int)+1 from by omega];rfl
 have g4:((enode f:Nat):Int)≠0:=by have:=gt.1;omega
 have HN:=Hd (fun W=>Zb2 f W hf);have gG:sb≠gc:=fun e=>gh e.symm
 have ge:((enode f:Nat):Int)<d.counts.length:=by omega
 obtain⟨N,hN,gn,go⟩:=gT;rw[<- hN] at g1;rw[<- gn,<- go] at gC gE;obtain⟨B,hB⟩:∃ B,B=d.pool.tk (enode f):=⟨_,rfl⟩;rw[<- hB] at g1;rw[hc] at gj;obtain⟨k,hk⟩:∃ k,k=enode f:=⟨_,rfl⟩;rw[<- hk] at gj gx g1 g4 HN ge ga;have gQ:((k:Int) == 0)=false:=by simpa using g4
 have gP:0<k:=by omega
 have gI:d.counts.length<=9223372036854775807:=by unfold maxLen at gB;omega
 obtain⟨dn,gz⟩:∃ n,n=d.dead:=⟨_,rfl⟩;rw[<- gz] at c4 gA ga;clear ih h hx hc hv gv gO gB gw g6 gt g4 g5 gS hf gu st1 st2 g2 g0 gp gd gM g3 gm gy hN gn go hB gz gg hk
 go_enter func226,ntmps226
 go_wp2_with fail;refine(HN.out _).mono ?_;rintro x w' ⟨rfl,rfl⟩;go_wp2_with fail;rw[<- ga.out];refine(g1.out W2 (Below.refl _ _)).mono ?_;rintro x v2 ⟨rfl,g8⟩;unfold Zaz;clear ga c0 c1 c2 c3 c4 f0 gj gx HN gh gG ge gQ gP gI gA;go_wp2_with fail;obtain⟨W3,g9⟩:∃ W,W=v2.alloc (.cells #[.int .i64 N.id,.int .i64 N.v,.int .i64 N.lo,.int .i64 N.hi,.int .i64 N.refs] 254):=⟨_,rfl⟩;obtain⟨bx,g7⟩:∃ bx,bx=v2.heap.size:=⟨_,rfl⟩;have gR:W2.heap.size<=bx:=by rw[g7];exact g8.size
 have gl:Below W2.heap.size W2 W3:=by rw[g9];exact g8.alloc g8.size _
 have gf:W3.heap[bx]?=some (.cells #[.int .i64 N.id,.int .i64 N.v,.int .i64 N.lo,.int .i64 N.hi,.int .i64 N.refs] 254 (0,0)):=by rw[g9,g7];exact heap_alloc_new v2 _
 rw[<- g9];rw[<- g7];clear g9 g7 g8 g1 gZ;refine(gC.out _ gl).mono ?_;rintro x w1 ⟨cs1,dd1,rfl,st1,lv1,len1,low1,le1,chg1⟩;have gr:=(chg1.alien (Array.getElem?_eq_some_iff.1 gf).1 (gJ.out.none gR)).trans gf;obtain⟨z0,z1,z2,z3,z4,zz⟩:=cells5 gr;have gU:=Hd st1;have gX:=Hd lv1;have gY:=Hd len1;have HW1:=Hd low1;have gD:=Hd le1;have gF:=Hd ((gq.out.trans (Chg.of_below gl RCnt o)).trans chg1);clear st1 lv1 len1 low1 le1 chg1 gf gr gl;go_wp2_with fail;refine(gE.out w1 cs1 dd1 gU.out gX.out (fun e=>by first|exact absurd e (by decide)|exact gD.out (by simp)) gF.out).mono ?_;rintro x w2 ⟨cs2,dd2,rfl,st2,lv2,len2,low2,le2,chg2⟩;have gK:=Hd (gL.out w2 cs2 dd2 st2 lv2 (len2.trans gY.out) (fun i hi=>(low2 i (by omega)).trans (HW1.out i (by omega))) (fun e i=>by first|exact absurd e (by decide)|exact Nat.le_trans (le2 (by simp) i) (gD.out (by simp) i)) (gF.out.trans chg2));clear st2 lv2 len2 low2 le2 chg2;go_wp2_with fail;refine bodyPost_end (Zfd rfl _ _ _) rfl gK.out
theorem Zfx (o:Own)(sb:Nat)(s:Za5)(rk:Nat->Nat):∀ (m:Nat) (w:World) (d:Zad) (ext:Nat->Int) (f:Nat),Zoq o w sb d s rk ext f m ->
 Calls prog 226 #[.pointer (some ⟨sb,0,none⟩),.int .i64 f] w (Zbc o w sb d s rk m true (addE ext f (-1)))
 | m,w,d,ext,f,h=>by
   by_cases h0:enode f=0
   . exact Zxf h h0
   ·obtain⟨b,hx⟩:∃ b,Zaa d (enode f)=some b:=h.ok.resolve_left h0
    have hp:0<Zau d (enode f):=h.live.cnt.pos_of_ext hx (by
     have h1:=h.pos _ _ hx;rw[show toE f (enode f)=1 from Zja f] at h1;omega)
    by_cases hc:1<Zau d (enode f)
    . exact Zxe h hx hc
    ·cases m with
     | zero=>exact absurd (h.low.resolve_left h0) (by omega)
     | succ m=>exact Zxd h hx (by omega) (Zfx o sb s rk m)
open Go.RowKit
def Ze1 (r:Role):Prop:=r=.pool\/r=.slots\/r=.taken\/r=.free
def Zap (r:Role):Prop:=r=.store\/r=.levels\/r=.vars\/r=.level\/Ze1 r\/r=.tabs\/(∃ v,r=.tab v\/r=.tmap v)\/r=.counts
section
variable {o o':Own}{w w':World}{sb:Nat}{d:Zad}{s:Za5}
theorem Zam.setPool (h:Zam o w sb d s)(hlt:Zah o w){p':Zal}(hp:Zaq o' w' s.pb p')(hc:Chg Ze1 o o' w w'):Zam o' w' sb { d with pool:=p' } s:=by
 have n:∀ {r},r ≠ .pool->r ≠ .slots->r ≠ .taken->r ≠ .free->¬ Ze1 r:=fun a b c d h=>by rcases h with h|h|h|h<;>contradiction
 exact⟨hc.ext _ _ h.own,hc.ext _ _ h.ownl,(hc.same hlt h.own (n (by simp) (by simp) (by simp) (by simp))).trans h.blk,(hc.same hlt h.ownl (n (by simp) (by simp) (by simp) (by simp))).trans h.lev,
  h.vars.chg hc hlt (n (by simp) (by simp) (by simp) (by simp)),h.level.chg hc hlt (n (by simp) (by simp) (by simp) (by simp)),hp,h.tabs.chg hc hlt (n (by simp) (by simp) (by simp) (by simp)),
  fun v hv=>(h.tab v hv).chg hc hlt (n (by simp) (by simp) (by simp) (by simp)) (n (by simp) (by simp) (by simp) (by simp)),h.counts.chg hc hlt (n (by simp) (by simp) (by simp) (by simp)),h.len,h.tlen⟩
theorem Zam.setTab (h:Zam o w sb d s)(hlt:Zah o w){v:Nat}{f':Nat×Nat->Option Nat}(ht:Zc9 o' w' v (s.ts.getD v 0) f')(hc:Chg (· = .tmap v) o o' w w'):Zam o' w' sb { d with tab:=fun u=>if u=v then f' else d.tab u } s:=by
 refine⟨hc.ext _ _ h.own,hc.ext _ _ h.ownl,(hc.same hlt h.own (by simp)).trans h.blk,(hc.same hlt h.ownl (by simp)).trans h.lev,
  h.vars.chg hc hlt (by simp),h.level.chg hc hlt (by simp),h.pool.chg hc hlt (by simp) (by simp) (by simp) (by simp),h.tabs.chg hc hlt (by simp),
  fun u hu=>?_,h.counts.chg hc hlt (by simp),h.len,h.tlen⟩
 dsimp only
 by_cases e:u=v
 . subst e;rw[if_pos rfl];exact ht
 . rw[if_neg e];exact(h.tab u hu).chg hc hlt (by simp) (by simpa using e)
end
def Zaw (d:Zad):Nat->Int:=fun i=>if d.pool.tk i=true then ((d.pool.nd i).refs:Int) else 0
structure Zf4 (d d':Zad)(f:Nat)(sg:Int):Prop where
 vars:d'.vars=d.vars
 level:d'.level=d.level
 tab:d'.tab=d.tab
 nodes:Zaa d'=Zaa d
 many:d'.pool.many=d.pool.many
 free:d'.pool.free=d.pool.free
 room:d'.pool.room=d.pool.room
 len:d'.pool.at_.length=d.pool.at_.length
 clen:d'.counts.length=d.counts.length
 ext:∀ i,i≠0->Zaw d' i=Zaw d i+sg*toE f i
 live:Zb9 d' (Zaw d')
def Zet (o:Own)(w:World)(sb:Nat)(d:Zad)(s:Za5)(f:Nat)(sg:Int)(e:Ending)(w':World):Prop :=
 ∃ d',e=.returned (.int .i64 0)/\Zam o w' sb d' s/\Zah o w'/\Zf4 d d' f sg/\Chg Zap o o w w'
theorem Zi4:∀ r,RCnt r->Zap r:=fun r h=>by rcases h with h|h<;>simp[Zap,h]
theorem Zgo:∀ r:Role,r=.slots->Zap r:=fun r h=>by simp[Zap,Ze1,h]
def RN.ref (n:RN)(k:Nat):RN:={ n with refs:=k }
theorem Zgp {d:Zad}{x k:Nat}(hk:x<d.pool.at_.length)(ht:d.pool.tk x=true):Zaa { d with pool:=d.pool.setNd x ((d.pool.nd x).ref k) }=Zaa d:=by
 funext i;unfold Zaa;rw[Zal.setNd_get hk ht]
 by_cases e:i=x
 . subst e;simp[Zal.get,ht,RN.ref,bnOf]
 . rw[if_neg e]
theorem Zg6 {d:Zad}{x k:Nat}(hk:x<d.pool.at_.length)(ht:d.pool.tk x=true):Zaw { d with pool:=d.pool.setNd x ((d.pool.nd x).ref k) }=fun i=>if i=x then (k:Int) else Zaw d i:=by
 funext i;unfold Zaw;have h1:(d.pool.setNd x ((d.pool.nd x).ref k)).tk i=d.pool.tk i:=rfl;have h2:(d.pool.setNd x ((d.pool.nd x).ref k)).nd i=if i=x then (d.pool.nd x).ref k else d.pool.nd i:=Zid hk i
 dsimp only;rw[h1,h2]
 by_cases e:i=x
 . subst e;simp[ht,RN.ref]
 . simp[e]
theorem Zce {d:Zad}{x:Nat}(ht:d.pool.tk x=true):Zaw d x=((d.pool.nd x).refs:Int):=by simp[Zaw,ht]
theorem Zk8 {d:Zad}{x k:Nat}{ext:Nat->Int}(hk:x<d.pool.at_.length)(ht:d.pool.tk x=true)(h:Zb9 d ext):Zb9 { d with pool:=d.pool.setNd x ((d.pool.nd x).ref k) } ext:=by
 have hn:=Zgp (k:=k) hk ht;have hL:({ d with pool:=d.pool.setNd x ((d.pool.nd x).ref k) }:Zad).pool.at_.length=d.pool.at_.length:=by simp[Zal.setNd]
 refine⟨?_,?_,?_⟩
 . rw[hn,hL];exact h.cnt
 . rw[hn,hL];exact h.dead
 . rw[hn];exact h.has
theorem Zl2 {o:Own}{w:World}{sb:Nat}{d:Zad}{s:Za5}(h:Zam o w sb d s)(hlt:Zah o w)(hl:Zb9 d (Zaw d))(f:Nat)(hf:f<eMax)(hx:enode f=0) :
 Calls prog 227 #[.pointer (some ⟨sb,0,none⟩),.int .i64 f] w (Zet o w sb d s f 1):=by
 obtain⟨c0,c1,c2,c3,c4,f0⟩:=cells5 h.blk;have lsb:sb<w.heap.size:=Zab c0;have g3:Hid (∀ W:World,Below w.heap.size w W->Zet o w sb d s f 1 (.returned (.int .i64 0)) W):=fun W hb =>
  ⟨d,rfl,h.below hlt hb,hlt.mono hb.size,⟨rfl,rfl,rfl,rfl,rfl,rfl,rfl,rfl,rfl,fun i hi=>by
   have e:f/2=0:=hx;simp[toE,e,Ne.symm hi],hl⟩,Chg.of_below hb _ _⟩
 have g1:(decide (enode f=0)||d.pool.tk (enode f))=true:=by rw[hx];rfl
 have g7:Hid (∀ W:World,Below w.heap.size w W->Calls prog 198 #[.pointer (some ⟨sb,0,none⟩),.int .i64 f] W fun x w'=>x=.returned (.bool true)/\Below W.heap.size W w'):=fun W hb=>by
  have h1:=Zdx (h.below hlt hb) (hlt.mono hb.size) f hf;rw[g1] at h1;exact h1
 have g4:d.pool.tk 0=false:=h.pool.zero;have g2:Hid (∀ W:World,Below w.heap.size w W->Calls prog 228 #[.pointer (some ⟨s.pb,0,none⟩),.int .i64 (enode f:Nat)] W fun x w'=>x=.returned (.tuple #[Zaz (d.pool.has (enode f)),.bool (d.pool.tk (enode f))])/\Below W.heap.size W w') :=
  Hd (fun W hb=>Zcx o s.pb d.pool (enode f) W (h.pool.below hb hlt) (hlt.mono hb.size))
 have g8:Hid (∀ W:World,Below w.heap.size w W->W.cell? ⟨sb,1,none⟩=some (.pointer (some ⟨s.pb,0,none⟩))):=Hd (fun W hb=>(hb.cell (p:=⟨sb,1,none⟩) lsb).trans c1);have HN:=Hd (fun W=>Zb2 f W hf);have g0:d.pool.tk (enode f)=false:=by rw[hx];exact g4
 obtain⟨N,hN⟩:∃ N,N=d.pool.has (enode f):=⟨_,rfl⟩;obtain⟨B,hB⟩:∃ B,B=d.pool.tk (enode f):=⟨_,rfl⟩;obtain⟨k,hk⟩:∃ k,k=enode f:=⟨_,rfl⟩;rw[<- hN,<- hB,<- hk] at g2;rw[<- hk] at HN;have HB:=Hd (hB.trans g0);clear h hlt hl hf hx g1 c0 c1 c2 c3 c4 f0 lsb g4 g0 hN hk hB
 go_enter func227,ntmps227
 go_wp2_with fail;refine(g7.out _ (Below.refl _ _)).mono ?_;rintro x w1 ⟨rfl,g6⟩;have g9:=Hd g6;clear g6;go_upto_region 5 with fail;refine Zen (w0:=w) (N:=N) (v0:=.pointer (some ⟨sb,0,none⟩)) (v1:=.pointer (some ⟨sb,0,none⟩)) (v2:=.pointer (some ⟨sb,1,none⟩)) (v3:=.pointer (some ⟨s.pb,0,none⟩)) (v4:=.int .i64 f) (v5:=.int .i64 k) (v6:=.tuple #[Zaz N,.bool B]) (v7:=.tuple #[Zaz N,.bool B]) (v8:=Zaz N) (v9:=.bool B) (v12:=.bool B) rfl (by kernel_rfl) (by kernel_rfl) ⟨⟨rfl,rfl,rfl,rfl,rfl,rfl,rfl⟩,rfl,rfl,rfl,rfl,rfl,rfl⟩ rfl (by decide) (Za9 g9.out 1) (fun W _=>HN.out W) (fun W hb=>g2.out W hb) (fun W hb=>?_) (fun x W=>?_) (fun x W X hX=>?_) (fun a W=>?_) (fun bx W Y hz hY=>?_) (fun bx W3 gd g5 ga=>?_)
 . have ge:=g8.out W hb;simp only[Zai];refine⟨?_,?_,?_,?_,?_⟩<;>go_simp
 . simp only[Zai];refine⟨?_,?_⟩<;>go_simp
 . subst hX;simp only[Zai];unfold Zaz;refine⟨?_,?_,?_⟩<;>go_simp
 . go_simp
 . subst hY;obtain⟨e0,e1,e2,e3,e4,fz⟩:=cells5 hz;simp only[Zai];unfold Zaz;refine⟨⟨_,_,_,rfl,Zb4 (k:=0) fz e0 e1 e2 e3 e4 _ _ _ _ _⟩,fun W=>?_⟩;go_simp
 simp only[Zai];unfold Zaz;obtain rfl:B=false:=HB.out;have gc:=Hd g5;clear g5 ga g2 HN g7 g8 g9 HB;go_wp2_with fail;go_ret;exact g3.out _ gc.out
theorem Zl1 {o:Own}{w:World}{sb:Nat}{d:Zad}{s:Za5}(h:Zam o w sb d s)(hlt:Zah o w)(hl:Zb9 d (Zaw d)){rk:Nat->Nat}(ha:Acy (Zaa d) rk)(f:Nat){b:BN}(hx:Zaa d (enode f)=some b)
 (htop:∀ y b,Zaa d y=some b->Zaw d y<1099511627776) :
 Calls prog 227 #[.pointer (some ⟨sb,0,none⟩),.int .i64 f] w (Zet o w sb d s f 1):=by
 obtain⟨c0,c1,c2,c3,c4,f0⟩:=cells5 h.blk;have lsb:sb<w.heap.size:=Zab c0;have g9:okE (Zaa d) f:=.inr ⟨b,hx⟩;have hf:f<eMax:=by have:=h.edge_lt g9;unfold eMax;omega
 have g0:=Za1 hx;have g3:=h.tk_lt hx;have gx:(d.pool.nd (enode f)).refs<1099511627776:=by have:=htop _ _ hx;rw[Zce g0.1] at this;omega
 have hid:(d.pool.nd (enode f)).id=enode f:=h.pool.id _ g0.1;have ga:(decide (enode f=0)||d.pool.tk (enode f))=true:=by rw[g0.1];simp
 have gr:Hid (∀ W:World,Below w.heap.size w W->Calls prog 198 #[.pointer (some ⟨sb,0,none⟩),.int .i64 f] W fun x w'=>x=.returned (.bool true)/\Below W.heap.size W w'):=fun W hb=>by
  have h1:=Zdx (h.below hlt hb) (hlt.mono hb.size) f hf;rw[ga] at h1;exact h1
 have g2:Hid (∀ W:World,Below w.heap.size w W->Calls prog 228 #[.pointer (some ⟨s.pb,0,none⟩),.int .i64 (enode f:Nat)] W fun x w'=>x=.returned (.tuple #[Zaz (d.pool.has (enode f)),.bool (d.pool.tk (enode f))])/\Below W.heap.size W w') :=
  Hd (fun W hb=>Zcx o s.pb d.pool (enode f) W (h.pool.below hb hlt) (hlt.mono hb.size))
 have gt:Hid (∀ W:World,Below w.heap.size w W->W.cell? ⟨sb,1,none⟩=some (.pointer (some ⟨s.pb,0,none⟩))):=Hd (fun W hb=>(hb.cell (p:=⟨sb,1,none⟩) lsb).trans c1);have HN:=Hd (fun W=>Zb2 f W hf);obtain⟨r,hr⟩:∃ r,r=(d.pool.nd (enode f)).refs:=⟨_,rfl⟩
 skip
 have gc:Hid (∀ W:World,Below w.heap.size w W->Calls prog 224 #[.pointer (some ⟨s.pb,0,none⟩),Zaz ((d.pool.nd (enode f)).ref (r+1))] W fun x w'=>x=.returned (.int .i64 0)/\Zam o w' sb { d with pool:=d.pool.setNd (enode f) ((d.pool.nd (enode f)).ref (r+1)) } s/\Chg Zap o o w w'/\Zah o w'):=fun W hb=>by
  have gz:d.pool.tk ((d.pool.nd (enode f)).ref (r+1)).id=true:=by show d.pool.tk (d.pool.nd (enode f)).id=true;rw[hid];exact g0.1
  refine(Zhs o s.pb d.pool ((d.pool.nd (enode f)).ref (r+1)) W (h.pool.below hb hlt) (hlt.mono hb.size) gz).mono ?_;rintro e w' ⟨rfl,hp,hc,g6⟩;have e1:((d.pool.nd (enode f)).ref (r+1)).id=enode f:=hid;rw[e1] at hp;exact⟨rfl,(h.below hlt hb).setPool (hlt.mono hb.size) hp (hc.mono (fun r hr=>by simp[Ze1,hr])),(Chg.of_below hb _ _).trans (hc.mono Zgo),g6⟩
 have g8:Hid (∀ (W:World),Zam o W sb { d with pool:=d.pool.setNd (enode f) ((d.pool.nd (enode f)).ref (r+1)) } s->Zah o W->Chg Zap o o w W ->
  Calls prog 223 #[.pointer (some ⟨sb,0,none⟩),.int .i64 f] W fun e w'=>e=.returned (.tuple #[])/\Zet o w sb d s f 1 (.returned (.int .i64 0)) w'):=fun W hs g6 gC=>by
  have g5:=Zgp (d:=d) (k:=r+1) g3.2.1 g0.1
  refine(Zfy o sb s rk (rk (enode f)+1) W _ (Zaw d) f ⟨hs,g6,by rw[g5];exact ha,by rw[g5];exact g9,Zk8 g3.2.1 g0.1 hl,fun y q hq=>(by
   rw[g5] at hq;have h1:=htop y q hq;have h2:toE f y<=1:=by unfold toE;split<;>omega
   omega),.inr (Nat.lt_succ_self _)⟩).mono ?_
  rintro e w' ⟨cs,dd,rfl,gw,gy,gB,_,_,gi⟩;refine⟨rfl,_,rfl,gw,g6.mono gi.size,⟨rfl,rfl,rfl,g5,rfl,rfl,rfl,by simp[Zad.cd,Zal.setNd],gB,fun i hi=>?_,gy.congr (fun y b' hb'=>?_)⟩,gC.trans (gi.mono Zi4)⟩
  ·show Zaw { d with pool:=d.pool.setNd (enode f) ((d.pool.nd (enode f)).ref (r+1)) } i=_
   rw[Zg6 g3.2.1 g0.1];dsimp only;unfold toE
   by_cases e:i=enode f
   . have e':f/2=i:=e.symm;rw[if_pos e,if_pos e',e,Zce g0.1,<- hr];omega
   ·have e':¬ f/2=i:=fun h'=>e h'.symm
    rw[if_neg e,if_neg e'];omega
  ·show Zaw { d with pool:=d.pool.setNd (enode f) ((d.pool.nd (enode f)).ref (r+1)) } y=_
   rw[Zg6 g3.2.1 g0.1];dsimp only;unfold addE toE
   by_cases e:y=enode f
   . have e':f/2=y:=e.symm;rw[if_pos e,if_pos e',e,Zce g0.1,<- hr];omega
   ·have e':¬ f/2=y:=fun h'=>e h'.symm
    rw[if_neg e,if_neg e'];omega
 have go:d.pool.has (enode f)=d.pool.nd (enode f):=g0.2.1;rw[go] at g2;have gd:Hid (Zaz ((d.pool.nd (enode f)).ref (r+1))=.agg #[.int .i64 (d.pool.nd (enode f)).id,.int .i64 (d.pool.nd (enode f)).v,.int .i64 (d.pool.nd (enode f)).lo,.int .i64 (d.pool.nd (enode f)).hi,.int .i64 ((r:Int)+1)]):=by
  show _=_
  unfold Zaz RN.ref;dsimp only;rw[show ((r+1:Nat):Int)=(r:Int)+1 from by omega]
 rw[g0.1] at g2;rw[<- hr] at gx;obtain⟨N,hN⟩:∃ N,N=d.pool.nd (enode f):=⟨_,rfl⟩;have gn:N.refs=r:=by rw[hN,hr]
 rw[<- hN] at g2 gd gc g8;obtain⟨B,hB⟩:∃ B,B=true:=⟨_,rfl⟩;rw[<- hB] at g2;obtain⟨k,hk⟩:∃ k,k=enode f:=⟨_,rfl⟩;rw[<- hk] at g2 HN;have gu:=Hd hB;have gq:=Hd gn;have gH:=Hd hk;clear h hlt hl ha hx htop hf g0 ga g3 hid hr go hN hB hk g9 c0 c1 c2 c3 c4 f0 lsb gn
 go_enter func227,ntmps227
 go_wp2_with fail;refine(gr.out _ (Below.refl _ _)).mono ?_;rintro x w1 ⟨rfl,gl⟩;have gG:=Hd gl;clear gl gr;go_upto_region 5 with fail;refine Zen (w0:=w) (N:=N) (v0:=.pointer (some ⟨sb,0,none⟩)) (v1:=.pointer (some ⟨sb,0,none⟩)) (v2:=.pointer (some ⟨sb,1,none⟩)) (v3:=.pointer (some ⟨s.pb,0,none⟩)) (v4:=.int .i64 f) (v5:=.int .i64 k) (v6:=.tuple #[Zaz N,.bool B]) (v7:=.tuple #[Zaz N,.bool B]) (v8:=Zaz N) (v9:=.bool B) (v12:=.bool B) rfl (by kernel_rfl) (by kernel_rfl) ⟨⟨rfl,rfl,rfl,rfl,rfl,rfl,rfl⟩,rfl,rfl,rfl,rfl,rfl,rfl⟩ rfl (by decide) (Za9 gG.out 1) (fun W _=>HN.out W) (fun W hb=>g2.out W hb) (fun W hb=>?_) (fun x W=>?_) (fun x W X hX=>?_) (fun a W=>?_) (fun bx W Y hz hY=>?_) (fun bx W3 gA gk ge=>?_)
 . have gj:=gt.out W hb;simp only[Zai];refine⟨?_,?_,?_,?_,?_⟩<;>go_simp
 . simp only[Zai];refine⟨?_,?_⟩<;>go_simp
 . subst hX;simp only[Zai];unfold Zaz;refine⟨?_,?_,?_⟩<;>go_simp
 . go_simp
 . subst hY;obtain⟨e0,e1,e2,e3,e4,fz⟩:=cells5 hz;simp only[Zai];unfold Zaz;refine⟨⟨_,_,_,rfl,Zb4 (k:=0) fz e0 e1 e2 e3 e4 _ _ _ _ _⟩,fun W=>?_⟩;go_simp
 simp only[Zai];unfold Zaz;obtain rfl:B=true:=gu.out;have g1:=ge;unfold Zv5 at g1;rw[gq.out] at g1;have gp:=Hd g1;have gv:=Hd gk;obtain⟨y0,y1,y2,y3,y4,yz⟩:=cells5 g1;clear ge g1 gk gq g2 HN gu;go_upto_region 8 with fail;have g4:=Zac (k:=4) gp.out (.int .i64 ((r:Int)+1));have g7:Below w.heap.size w (W3.setCell ⟨bx,4,none⟩ (.int .i64 ((r:Int)+1))):=gv.out.setCell (p:=⟨bx,4,none⟩) gA _;obtain⟨W4,gm⟩:∃ W,W=W3.setCell ⟨bx,4,none⟩ (.int .i64 ((r:Int)+1)):=⟨_,rfl⟩;rw[<- gm] at g4 g7 ⊢;clear gm gp gv y0 y1 y2 y3 y4 yz;simp at g4;obtain⟨z0,z1,z2,z3,z4,zz⟩:=cells5 g4;have gj:=gt.out _ g7;refine Zan (fun w'=>w'=W4.drew) true 5 [(0,false),(1,false),(2,false),(3,false),(4,false),(5,true)] (by kernel_rfl) (by kernel_rfl) rfl ?_;simp only[planned,Zdd]
 iterate 5
  refine Zaj rfl ?_;apply Exists.intro;refine⟨fun w' hw=>?_,?_⟩
  . subst hw;go_simp;rfl
  simp only[Zai]
 refine Zew rfl (fun K hK=>?_);unfold Oper.wp;go_simp;rw[<- gd.out];refine(gc.out _ (Za9 g7 1)).mono ?_;rintro x w5 ⟨rfl,gf,gh,gg⟩;refine hK _ _ (Zb8 ?_);have gD:=Hd gf;have gF:=Hd gh;have gE:=Hd gg;clear gf gh gg g4 g7 z0 z1 z2 z3 z4 zz gj;go_wp2_with fail;refine(g8.out _ gD.out gE.out gF.out).mono ?_;rintro x w6 ⟨rfl,hp⟩;have HP:=Hd hp;clear hp;go_wp2_with fail;go_ret;exact HP.out
open Go.RowKit
theorem Zl0 {o:Own}{w:World}{sb:Nat}{d:Zad}{s:Za5}(h:Zam o w sb d s)(hlt:Zah o w)(hl:Zb9 d (Zaw d))(f:Nat)(hf:f<eMax)(hx:enode f=0) :
 Calls prog 163 #[.pointer (some ⟨sb,0,none⟩),.int .i64 f] w (Zet o w sb d s f (-1)):=by
 obtain⟨c0,c1,c2,c3,c4,f0⟩:=cells5 h.blk;have lsb:sb<w.heap.size:=Zab c0;have g3:Hid (∀ W:World,Below w.heap.size w W->Zet o w sb d s f (-1) (.returned (.int .i64 0)) W):=fun W hb =>
  ⟨d,rfl,h.below hlt hb,hlt.mono hb.size,⟨rfl,rfl,rfl,rfl,rfl,rfl,rfl,rfl,rfl,fun i hi=>by
   have e:f/2=0:=hx;simp[toE,e,Ne.symm hi],hl⟩,Chg.of_below hb _ _⟩
 have g1:(decide (enode f=0)||d.pool.tk (enode f))=true:=by rw[hx];rfl
 have g7:Hid (∀ W:World,Below w.heap.size w W->Calls prog 198 #[.pointer (some ⟨sb,0,none⟩),.int .i64 f] W fun x w'=>x=.returned (.bool true)/\Below W.heap.size W w'):=fun W hb=>by
  have h1:=Zdx (h.below hlt hb) (hlt.mono hb.size) f hf;rw[g1] at h1;exact h1
 have g4:d.pool.tk 0=false:=h.pool.zero;have g2:Hid (∀ W:World,Below w.heap.size w W->Calls prog 228 #[.pointer (some ⟨s.pb,0,none⟩),.int .i64 (enode f:Nat)] W fun x w'=>x=.returned (.tuple #[Zaz (d.pool.has (enode f)),.bool (d.pool.tk (enode f))])/\Below W.heap.size W w') :=
  Hd (fun W hb=>Zcx o s.pb d.pool (enode f) W (h.pool.below hb hlt) (hlt.mono hb.size))
 have g8:Hid (∀ W:World,Below w.heap.size w W->W.cell? ⟨sb,1,none⟩=some (.pointer (some ⟨s.pb,0,none⟩))):=Hd (fun W hb=>(hb.cell (p:=⟨sb,1,none⟩) lsb).trans c1);have HN:=Hd (fun W=>Zb2 f W hf);have g0:d.pool.tk (enode f)=false:=by rw[hx];exact g4
 obtain⟨N,hN⟩:∃ N,N=d.pool.has (enode f):=⟨_,rfl⟩;obtain⟨B,hB⟩:∃ B,B=d.pool.tk (enode f):=⟨_,rfl⟩;obtain⟨k,hk⟩:∃ k,k=enode f:=⟨_,rfl⟩;rw[<- hN,<- hB,<- hk] at g2;rw[<- hk] at HN;have HB:=Hd (hB.trans g0);clear h hlt hl hf hx g1 c0 c1 c2 c3 c4 f0 lsb g4 g0 hN hk hB
 go_enter func163,ntmps163
 go_wp2_with fail;refine(g7.out _ (Below.refl _ _)).mono ?_;rintro x w1 ⟨rfl,g6⟩;have g9:=Hd g6;clear g6;go_upto_region 5 with fail;refine Zen (w0:=w) (N:=N) (v0:=.pointer (some ⟨sb,0,none⟩)) (v1:=.pointer (some ⟨sb,0,none⟩)) (v2:=.pointer (some ⟨sb,1,none⟩)) (v3:=.pointer (some ⟨s.pb,0,none⟩)) (v4:=.int .i64 f) (v5:=.int .i64 k) (v6:=.tuple #[Zaz N,.bool B]) (v7:=.tuple #[Zaz N,.bool B]) (v8:=Zaz N) (v9:=.bool B) (v12:=.bool B) rfl (by kernel_rfl) (by kernel_rfl) ⟨⟨rfl,rfl,rfl,rfl,rfl,rfl,rfl⟩,rfl,rfl,rfl,rfl,rfl,rfl⟩ rfl (by decide) (Za9 g9.out 1) (fun W _=>HN.out W) (fun W hb=>g2.out W hb) (fun W hb=>?_) (fun x W=>?_) (fun x W X hX=>?_) (fun a W=>?_) (fun bx W Y hz hY=>?_) (fun bx W3 gd g5 ga=>?_)
 . have ge:=g8.out W hb;simp only[Zai];refine⟨?_,?_,?_,?_,?_⟩<;>go_simp
 . simp only[Zai];refine⟨?_,?_⟩<;>go_simp
 . subst hX;simp only[Zai];unfold Zaz;refine⟨?_,?_,?_⟩<;>go_simp
 . go_simp
 . subst hY;obtain⟨e0,e1,e2,e3,e4,fz⟩:=cells5 hz;simp only[Zai];unfold Zaz;refine⟨⟨_,_,_,rfl,Zb4 (k:=0) fz e0 e1 e2 e3 e4 _ _ _ _ _⟩,fun W=>?_⟩;go_simp
 simp only[Zai];unfold Zaz;obtain rfl:B=false:=HB.out;have gc:=Hd g5;clear g5 ga g2 HN g7 g8 g9 HB;go_wp2_with fail;go_ret;exact g3.out _ gc.out
theorem Zlz {o:Own}{w:World}{sb:Nat}{d:Zad}{s:Za5}(h:Zam o w sb d s)(hlt:Zah o w)(hl:Zb9 d (Zaw d)){rk:Nat->Nat}(ha:Acy (Zaa d) rk)(f:Nat){b:BN}(hx:Zaa d (enode f)=some b)
 (htop:∀ y b,Zaa d y=some b->Zaw d y<1099511627776) (hpos:1<=Zaw d (enode f)) (hcn:∀ y b,Zaa d y=some b->Zau d y<=2199023255552) :
 Calls prog 163 #[.pointer (some ⟨sb,0,none⟩),.int .i64 f] w (Zet o w sb d s f (-1)):=by
 obtain⟨c0,c1,c2,c3,c4,f0⟩:=cells5 h.blk;have lsb:sb<w.heap.size:=Zab c0;have g9:okE (Zaa d) f:=.inr ⟨b,hx⟩;have hf:f<eMax:=by have:=h.edge_lt g9;unfold eMax;omega
 have g0:=Za1 hx;have g3:=h.tk_lt hx;have gx:(d.pool.nd (enode f)).refs<1099511627776:=by have:=htop _ _ hx;rw[Zce g0.1] at this;omega
 have hid:(d.pool.nd (enode f)).id=enode f:=h.pool.id _ g0.1;have ga:(decide (enode f=0)||d.pool.tk (enode f))=true:=by rw[g0.1];simp
 have gr:Hid (∀ W:World,Below w.heap.size w W->Calls prog 198 #[.pointer (some ⟨sb,0,none⟩),.int .i64 f] W fun x w'=>x=.returned (.bool true)/\Below W.heap.size W w'):=fun W hb=>by
  have h1:=Zdx (h.below hlt hb) (hlt.mono hb.size) f hf;rw[ga] at h1;exact h1
 have g2:Hid (∀ W:World,Below w.heap.size w W->Calls prog 228 #[.pointer (some ⟨s.pb,0,none⟩),.int .i64 (enode f:Nat)] W fun x w'=>x=.returned (.tuple #[Zaz (d.pool.has (enode f)),.bool (d.pool.tk (enode f))])/\Below W.heap.size W w') :=
  Hd (fun W hb=>Zcx o s.pb d.pool (enode f) W (h.pool.below hb hlt) (hlt.mono hb.size))
 have gt:Hid (∀ W:World,Below w.heap.size w W->W.cell? ⟨sb,1,none⟩=some (.pointer (some ⟨s.pb,0,none⟩))):=Hd (fun W hb=>(hb.cell (p:=⟨sb,1,none⟩) lsb).trans c1);have HN:=Hd (fun W=>Zb2 f W hf);obtain⟨r,hr⟩:∃ r,r=(d.pool.nd (enode f)).refs:=⟨_,rfl⟩;have gH:1<=r:=by rw[Zce g0.1] at hpos;omega
 have gc:Hid (∀ W:World,Below w.heap.size w W->Calls prog 224 #[.pointer (some ⟨s.pb,0,none⟩),Zaz ((d.pool.nd (enode f)).ref (r-1))] W fun x w'=>x=.returned (.int .i64 0)/\Zam o w' sb { d with pool:=d.pool.setNd (enode f) ((d.pool.nd (enode f)).ref (r-1)) } s/\Chg Zap o o w w'/\Zah o w'):=fun W hb=>by
  have gz:d.pool.tk ((d.pool.nd (enode f)).ref (r-1)).id=true:=by show d.pool.tk (d.pool.nd (enode f)).id=true;rw[hid];exact g0.1
  refine(Zhs o s.pb d.pool ((d.pool.nd (enode f)).ref (r-1)) W (h.pool.below hb hlt) (hlt.mono hb.size) gz).mono ?_;rintro e w' ⟨rfl,hp,hc,g6⟩;have e1:((d.pool.nd (enode f)).ref (r-1)).id=enode f:=hid;rw[e1] at hp;exact⟨rfl,(h.below hlt hb).setPool (hlt.mono hb.size) hp (hc.mono (fun r hr=>by simp[Ze1,hr])),(Chg.of_below hb _ _).trans (hc.mono Zgo),g6⟩
 have g8:Hid (∀ (W:World),Zam o W sb { d with pool:=d.pool.setNd (enode f) ((d.pool.nd (enode f)).ref (r-1)) } s->Zah o W->Chg Zap o o w W ->
  Calls prog 226 #[.pointer (some ⟨sb,0,none⟩),.int .i64 f] W fun e w'=>e=.returned (.tuple #[])/\Zet o w sb d s f (-1) (.returned (.int .i64 0)) w'):=fun W hs g6 gC=>by
  have g4:=Zgp (d:=d) (k:=r-1) g3.2.1 g0.1
  refine(Zfx o sb s rk (rk (enode f)+1) W _ (Zaw d) f ⟨hs,g6,by rw[g4];exact ha,by rw[g4];exact g9,Zk8 g3.2.1 g0.1 hl,fun y q hq=>hcn y q (by rw[g4] at hq;exact hq),fun y q hq=>(by
   rw[g4] at hq
   by_cases e:enode f=y
   ·subst e;have h1:Zaw d (enode f)=(r:Int):=by rw[Zce g0.1,hr]
    have h2:toE f (enode f)=1:=Zja f;rw[h1,h2];omega
   ·have h1:toE f y=0:=if_neg e;have h2:0<=Zaw d y:=by unfold Zaw;split<;>omega
    rw[h1];omega),.inr (Nat.lt_succ_self _)⟩).mono ?_
  rintro e w' ⟨cs,dd,rfl,gw,gy,gB,_,_,gi⟩;refine⟨rfl,_,rfl,gw,g6.mono gi.size,⟨rfl,rfl,rfl,g4,rfl,rfl,rfl,by simp[Zad.cd,Zal.setNd],gB,fun i hi=>?_,gy.congr (fun y b' hb'=>?_)⟩,gC.trans (gi.mono Zi4)⟩
  ·show Zaw { d with pool:=d.pool.setNd (enode f) ((d.pool.nd (enode f)).ref (r-1)) } i=_
   rw[Zg6 g3.2.1 g0.1];dsimp only;unfold toE
   by_cases e:i=enode f
   . have e':f/2=i:=e.symm;rw[if_pos e,if_pos e',e,Zce g0.1,<- hr];omega
   ·have e':¬ f/2=i:=fun h'=>e h'.symm
    rw[if_neg e,if_neg e'];omega
  ·show Zaw { d with pool:=d.pool.setNd (enode f) ((d.pool.nd (enode f)).ref (r-1)) } y=_
   rw[Zg6 g3.2.1 g0.1];dsimp only;unfold addE toE
   by_cases e:y=enode f
   . have e':f/2=y:=e.symm;rw[if_pos e,if_pos e',e,Zce g0.1,<- hr];omega
   ·have e':¬ f/2=y:=fun h'=>e h'.symm
    rw[if_neg e,if_neg e'];omega
 have go:d.pool.has (enode f)=d.pool.nd (enode f):=g0.2.1;rw[go] at g2;have gd:Hid (Zaz ((d.pool.nd (enode f)).ref (r-1))=.agg #[.int .i64 (d.pool.nd (enode f)).id,.int .i64 (d.pool.nd (enode f)).v,.int .i64 (d.pool.nd (enode f)).lo,.int .i64 (d.pool.nd (enode f)).hi,.int .i64 ((r:Int)-1)]):=by
  show _=_
  unfold Zaz RN.ref;dsimp only;rw[show ((r-1:Nat):Int)=(r:Int)-1 from by omega]
 rw[g0.1] at g2;rw[<- hr] at gx;obtain⟨N,hN⟩:∃ N,N=d.pool.nd (enode f):=⟨_,rfl⟩;have gn:N.refs=r:=by rw[hN,hr]
 rw[<- hN] at g2 gd gc g8;obtain⟨B,hB⟩:∃ B,B=true:=⟨_,rfl⟩;rw[<- hB] at g2;obtain⟨k,hk⟩:∃ k,k=enode f:=⟨_,rfl⟩;rw[<- hk] at g2 HN;have gu:=Hd hB;have gq:=Hd gn;have gI:=Hd hk;clear h hlt hl ha hx htop hf g0 ga g3 hid hr go hN hB hk g9 c0 c1 c2 c3 c4 f0 lsb gn hpos hcn
 go_enter func163,ntmps163
 go_wp2_with fail;refine(gr.out _ (Below.refl _ _)).mono ?_;rintro x w1 ⟨rfl,gl⟩;have gG:=Hd gl;clear gl gr;go_upto_region 5 with fail;refine Zen (w0:=w) (N:=N) (v0:=.pointer (some ⟨sb,0,none⟩)) (v1:=.pointer (some ⟨sb,0,none⟩)) (v2:=.pointer (some ⟨sb,1,none⟩)) (v3:=.pointer (some ⟨s.pb,0,none⟩)) (v4:=.int .i64 f) (v5:=.int .i64 k) (v6:=.tuple #[Zaz N,.bool B]) (v7:=.tuple #[Zaz N,.bool B]) (v8:=Zaz N) (v9:=.bool B) (v12:=.bool B) rfl (by kernel_rfl) (by kernel_rfl) ⟨⟨rfl,rfl,rfl,rfl,rfl,rfl,rfl⟩,rfl,rfl,rfl,rfl,rfl,rfl⟩ rfl (by decide) (Za9 gG.out 1) (fun W _=>HN.out W) (fun W hb=>g2.out W hb) (fun W hb=>?_) (fun x W=>?_) (fun x W X hX=>?_) (fun a W=>?_) (fun bx W Y hz hY=>?_) (fun bx W3 gA gk ge=>?_)
 . have gj:=gt.out W hb;simp only[Zai];refine⟨?_,?_,?_,?_,?_⟩<;>go_simp
 . simp only[Zai];refine⟨?_,?_⟩<;>go_simp
 . subst hX;simp only[Zai];unfold Zaz;refine⟨?_,?_,?_⟩<;>go_simp
 . go_simp
 . subst hY;obtain⟨e0,e1,e2,e3,e4,fz⟩:=cells5 hz;simp only[Zai];unfold Zaz;refine⟨⟨_,_,_,rfl,Zb4 (k:=0) fz e0 e1 e2 e3 e4 _ _ _ _ _⟩,fun W=>?_⟩;go_simp
 simp only[Zai];unfold Zaz;obtain rfl:B=true:=gu.out;have g1:=ge;unfold Zv5 at g1;rw[gq.out] at g1;have gp:=Hd g1;have gv:=Hd gk;obtain⟨y0,y1,y2,y3,y4,yz⟩:=cells5 g1;clear ge g1 gk gq g2 HN gu;go_upto_region 11 with fail;have g5:=Zac (k:=4) gp.out (.int .i64 ((r:Int)-1));have g7:Below w.heap.size w (W3.setCell ⟨bx,4,none⟩ (.int .i64 ((r:Int)-1))):=gv.out.setCell (p:=⟨bx,4,none⟩) gA _;obtain⟨W4,gm⟩:∃ W,W=W3.setCell ⟨bx,4,none⟩ (.int .i64 ((r:Int)-1)):=⟨_,rfl⟩;rw[<- gm] at g5 g7 ⊢;clear gm gp gv y0 y1 y2 y3 y4 yz;simp at g5;obtain⟨z0,z1,z2,z3,z4,zz⟩:=cells5 g5;have gj:=gt.out _ g7;refine Zan (fun w'=>w'=W4.drew) true 5 [(0,false),(1,false),(2,false),(3,false),(4,false),(5,true)] (by kernel_rfl) (by kernel_rfl) rfl ?_;simp only[planned,Zdd]
 iterate 5
  refine Zaj rfl ?_;apply Exists.intro;refine⟨fun w' hw=>?_,?_⟩
  . subst hw;go_simp;rfl
  simp only[Zai]
 refine Zew rfl (fun K hK=>?_);unfold Oper.wp;go_simp;rw[<- gd.out];refine(gc.out _ (Za9 g7 1)).mono ?_;rintro x w5 ⟨rfl,gf,gh,gg⟩;refine hK _ _ (Zb8 ?_);have gD:=Hd gf;have gF:=Hd gh;have gE:=Hd gg;clear gf gh gg g5 g7 z0 z1 z2 z3 z4 zz gj;go_wp2_with fail;refine(g8.out _ gD.out gE.out gF.out).mono ?_;rintro x w6 ⟨rfl,hp⟩;have HP:=Hd hp;clear hp;go_wp2_with fail;go_ret;exact HP.out
open Go.RowKit
structure Zvn (p p':Zal)(id:Nat)(n:RN):Prop where
 get:∀ i,p'.get i=if i=id then some { n with id:=id } else p.get i
 none:p.tk id=false
 pos:0<id
 lt:id<p'.at_.length
 le:p.at_.length<=p'.at_.length
 many:p'.many=p.many+1
 room:p'.room=p.room
theorem Zqa (o:Own)(pb:Nat)(p:Zal)(n:RN)(w:World)(h:Zaq o w pb p)(hlt:Zah o w) :
 Calls prog 264 #[.pointer (some ⟨pb,0,none⟩),Zaz n] w fun x w'=>(p.many=p.room/\x=.returned (.tuple #[.int .i64 0,.int .i64 7])/\Below w.heap.size w w') \/
  (∃ id p' o',x=.returned (.tuple #[.int .i64 (id:Nat),.int .i64 0])/\Zaq o' w' pb p'/\Zvn p p' id n/\Chg Ze1 o o' w w'/\Zah o' w'):=by
 rcases List.eq_nil_or_concat p.free with hf|⟨fs,id,hf⟩
 ·by_cases hr:p.at_.length<=p.room
  . refine(Zlu o pb p n w h hlt hf hr).mono ?_;rintro e w' ⟨rfl,o',h1,h2,h3⟩;refine .inr ⟨_,_,o',rfl,h1,⟨fun i=>Zal.fresh_get h.len i,?_,h.pos,by simp[Zal.fresh],by simp[Zal.fresh],rfl,rfl⟩,h2,h3⟩;simp[Zal.tk,List.getD,List.getElem?_eq_none (Nat.le_of_eq h.len)]
  . refine(Zn5 o pb p n w h hf (by omega)).mono ?_;rintro e w' ⟨rfl,hb⟩;refine .inl ⟨?_,rfl,hb⟩;have h1:=h.many;have h2:=h.top;rw[hf] at h1;simp at h1;omega
 . rw[List.concat_eq_append] at hf;have hm:=h.free id (by rw[hf];simp);refine(Zlv o pb p n fs id w h hlt hf).mono ?_;rintro e w' ⟨rfl,h1,h2,h3⟩;exact .inr ⟨id,_,o,rfl,h1,⟨fun i=>Zal.reuse_get hm.2.1 (by rw[h.len];exact hm.2.1) i,hm.2.2,hm.1,by simp[Zal.reuse];exact hm.2.1,by simp[Zal.reuse],rfl,rfl⟩,h2,h3⟩
structure Zj8 (d d':Zad)(id v lo hi:Nat):Prop where
 vars:d'.vars=d.vars
 level:d'.level=d.level
 tab:d'.tab=fun u=>if u=v then putF (d.tab v) (lo,hi) (some id) else d.tab u
 nodes:Zaa d'=addN (Zaa d) id ⟨v,lo,hi⟩
 none:Zaa d id=none
 pos:0<id
 many:d'.pool.many=d.pool.many+1
 room:d'.pool.room=d.pool.room
 ext:Zaw d'=fun i=>if i=id then 0 else Zaw d i
 live:Zb9 d' (Zaw d')
 clen:d'.counts.length<=1048578
 cnt:Zau d'=setC (Zau d) id 0
def Yb0 (o:Own)(w:World)(sb:Nat)(d:Zad)(v lo hi:Nat)(e:Ending)(w':World):Prop :=
 (d.pool.many=d.pool.room/\e=.returned (.tuple #[.int .i64 0,.int .i64 7])/\Below w.heap.size w w') \/
 (∃ id d' o',e=.returned (.tuple #[.int .i64 (id:Nat),.int .i64 0])/\Zar o' w' sb d'/\Zah o' w'/\Zj8 d d' id v lo hi/\Chg Zap o o' w w')
theorem Zwf {k k':Nat}{N:Nat->Option BN}{c:Nat->Nat}{id:Nat}{b:BN}(hlt:∀ i b,N i=some b->i<k)(hk:k<=k')(hf:N id=none)(hid:id<k'):Zec k' (addN N id b) (setC c id 0)=Zec k N c+1:=by
 unfold Zec;rw[Zdp (f:=dead1 N c) (j:=id) (fun i hi=>?_) k' hid]
 ·rw[Zqr (k:=k) (fun i hi=>?_) hk]
  . simp[dead1,hf,Zbs,setC]
  ·unfold dead1;cases e:N i with
   | none=>rfl
   | some b'=>exact absurd (hlt i b' e) (by omega)
 . unfold dead1;rw[Za2 _ hi];simp only[setC,if_neg hi]
section
variable {o o':Own}{w w':World}{sb:Nat}{d:Zad}{s:Za5}
theorem Zam.setVc (h:Zam o w sb d s)(hlt:Zah o w){v:Value}{cs:List Nat}(hr:RowR o' w' .counts 3 1 v cs.length (cs.map nat64))(hc:Chg (· = .counts) o o' w w'):Zam o' (w'.setCell ⟨sb,3,none⟩ v) sb (d.cd cs d.dead) { s with vc:=v }:=by
 have g0:=hc.ext _ _ h.own;have ne:∀ {b r},o' b=some r->r ≠ .store->b≠sb:=fun hb hr e=>by subst e;rw[g0] at hb;cases hb;exact hr rfl
 have k1:∀ {b r},o' b=some r->r ≠ .store->(w'.setCell ⟨sb,3,none⟩ v).heap[b]?=w'.heap[b]?:=fun hb hr=>Zaf (ne hb hr) _
 refine⟨g0,hc.ext _ _ h.ownl,Zac (k:=3) ((hc.same hlt h.own (by simp)).trans h.blk) _,(k1 (hc.ext _ _ h.ownl) (by simp)).trans ((hc.same hlt h.ownl (by simp)).trans h.lev),
  (h.vars.chg hc hlt (by simp)).keep (fun g hg=>k1 hg (by simp)) (fun _ h=>h),(h.level.chg hc hlt (by simp)).keep (fun g hg=>k1 hg (by simp)) (fun _ h=>h),
  (h.pool.chg hc hlt (by simp) (by simp) (by simp) (by simp)).keep (fun g r hg hr=>k1 hg (by rcases hr with rfl|rfl|rfl|rfl<;>simp)) (fun _ _ h=>h),
  (h.tabs.chg hc hlt (by simp)).keep (fun g hg=>k1 hg (by simp)) (fun _ h=>h),
  fun u hu=>((h.tab u hu).chg hc hlt (by simp) (by simp)).keep (fun g r hg hr=>k1 hg (by rcases hr with rfl|rfl<;>simp)) (fun _ _ h=>h),
  hr.keep (fun g hg=>k1 hg (by simp)) (fun _ h=>h),h.len,h.tlen⟩
end
theorem Zam.tabAt {o:Own}{w:World}{sb:Nat}{d:Zad}{s:Za5}(h:Zam o w sb d s){v:Nat}(hv:v<d.vars.length):∃ gt cap,s.vt=.slice (some ⟨gt,0,none⟩) s.ts.length cap/\w.cell? ⟨gt,v,none⟩=some (.pointer (some ⟨s.ts.getD v 0,0,none⟩))/\v<s.ts.length/\s.ts.length<=9223372036854775807:=by
 have g0:v<s.ts.length:=by rw[h.tlen];exact hv
 obtain⟨gt,cap,g1,_,h1,h2⟩:=h.tabs.shape (by omega);have hr:=h.tabs;rw[g1] at hr;refine⟨gt,cap,g1,?_,g0,by unfold maxLen at h2;omega⟩;rw[hr.cell v (by simpa using g0),List.getElem?_map,List.getElem?_eq_getElem g0];simp[ptrV,List.getD,g0]
structure AddS (o:Own)(w:World)(sb:Nat)(d:Zad)(ts:List Nat)(vt:Value)(o1:Own)(wx:World):Prop where
 st:∃ s,Zam o1 wx sb d s/\s.ts=ts/\s.vt=vt
 lt:Zah o1 wx
 chg:Chg Zap o o1 w wx
theorem Zwu:(prog.info? 3).map (fun i=>(i.zero,i.size,i.bytes))=some (some (.int .i64 0),1,8):=by kernel_rfl
def padC (cs:List Nat)(j:Nat):List Nat:=cs++List.replicate j 0
theorem Zxy (cs:List Nat)(j:Nat):padC cs (j+1)=padC cs j++[0]:=by unfold padC;rw[List.replicate_succ',List.append_assoc]
theorem Zih (cs:List Nat)(j:Nat):(padC cs j).length=cs.length+j:=by simp[padC]
theorem Yab (cs:List Nat)(j i:Nat):(padC cs j).getD i 0=cs.getD i 0:=by
 unfold padC;simp only[List.getD,List.getElem?_append];split
 . rfl
 ·rename_i h
  rw[List.getElem?_eq_none (l:=cs) (by omega),List.getElem?_replicate];split<;>rfl
def Zad.added (d:Zad)(p':Zal)(cs:List Nat)(id v lo hi:Nat):Zad:=⟨d.vars,d.level,p',fun u=>if u=v then putF (d.tab v) (lo,hi) (some id) else d.tab u,cs.set id 0,d.dead+1⟩
theorem Zvs {d:Zad}{p':Zal}{id v lo hi j:Nat}(hl:Zb9 d (Zaw d))(hok:∀ i b,Zaa d i=some b->okE (Zaa d) b.lo/\okE (Zaa d) b.hi)(hr:Zvn d.pool p' id ⟨0,v,lo,hi,0⟩)
 (hid:id<(padC d.counts j).length) (hcl:(padC d.counts j).length<=1048578):Zj8 d (d.added p' (padC d.counts j) id v lo hi) id v lo hi:=by
 have g0:Zaa d id=none:=by unfold Zaa Zal.get;rw[if_neg (by rw[hr.none];simp)];rfl
 have g1:Zaa (d.added p' (padC d.counts j) id v lo hi)=addN (Zaa d) id ⟨v,lo,hi⟩:=by
  funext i;unfold Zaa Zad.added;dsimp only;rw[hr.get]
  by_cases e:i=id
  . subst e;rw[if_pos rfl,Zbs];rfl
  . rw[if_neg e,Za2 _ e]
 have g4:∀ i,p'.tk i=if i=id then true else d.pool.tk i:=fun i=>by
  have h1:=hr.get i;unfold Zal.get at h1
  by_cases e:i=id
  ·rw[if_pos e] at h1 ⊢;split at h1
   . assumption
   . cases h1
  ·rw[if_neg e] at h1 ⊢
   by_cases h2:p'.tk i=true<;>by_cases h3:d.pool.tk i=true<;>simp[h2,h3] at h1 ⊢
 have g3:Zaw (d.added p' (padC d.counts j) id v lo hi)=fun i=>if i=id then 0 else Zaw d i:=by
  funext i;unfold Zaw;have h1:=hr.get i
  show (if p'.tk i=true then ((p'.nd i).refs:Int) else 0)=_
  rw[g4];unfold Zal.get at h1;rw[g4] at h1
  by_cases e:i=id
  . rw[if_pos e] at h1;simp only[e,if_true] at h1 ⊢;have h2:=Option.some.inj h1;rw[h2];rfl
  ·rw[if_neg e] at h1;simp only[if_neg e] at h1 ⊢
   by_cases h3:d.pool.tk i=true
   . rw[if_pos h3,if_pos h3] at h1;rw[if_pos h3,if_pos h3,Option.some.inj h1]
   . rw[if_neg h3,if_neg h3]
 have g2:Zau (d.added p' (padC d.counts j) id v lo hi)=setC (Zau d) id 0:=by
  funext i;unfold Zau setC Zad.added;dsimp only
  by_cases e:i=id
  . subst e;rw[if_pos rfl];simp[List.getD,hid]
  . rw[if_neg e,<- Yab d.counts j i];simp only[List.getD,List.getElem?_set,if_neg (Ne.symm e)]
 have g5:id≠0:=by have:=hr.pos;omega
 refine⟨rfl,rfl,rfl,g1,g0,hr.pos,hr.many,hr.room,g3,⟨?_,?_,fun i b hb=>?_⟩,by simpa [Zad.added] using hcl,g2⟩
 ·rw[g1,g2,g3]
  show Cnt p'.at_.length _ _ _
  refine Cnt.add (hl.cnt.weaken hr.le) g0 (fun i bi hb=>?_) hr.lt;have h1:=hok i bi hb;constructor
  ·rcases h1.1 with h2|⟨c,h2⟩
   . omega
   . intro e;rw[e,g0] at h2;cases h2
  ·rcases h1.2 with h2|⟨c,h2⟩
   . omega
   . intro e;rw[e,g0] at h2;cases h2
 ·rw[g1,g2]
  show ((d.dead+1:Nat):Int)=Zec p'.at_.length _ _
  rw[Zwf hl.cnt.lt hr.le g0 hr.lt,<- hl.dead];omega
 ·rw[g1] at hb
  show i<((padC d.counts j).set id 0).length
  rw[List.length_set]
  by_cases e:i=id
  . subst e;exact hid
  . rw[Za2 _ e] at hb;have:=hl.has i b hb;rw[Zih];omega
theorem Zjp {o:Own}{w:World}{sb:Nat}{d:Zad}{s:Za5}(h:Zam o w sb d s)(hlt:Zah o w)(hl:Zb9 d (Zaw d))(hok:∀ i b,Zaa d i=some b->okE (Zaa d) b.lo/\okE (Zaa d) b.hi)
 (v lo hi:Nat) (hv:v<d.vars.length) (ht:d.tab v (lo,hi)=none) (hcl:d.counts.length<=1048578) :
 Calls prog 248 #[.pointer (some ⟨sb,0,none⟩),.int .i64 v,.int .i64 lo,.int .i64 hi] w (Yb0 o w sb d v lo hi):=by
 obtain⟨c0,c1,c2,c3,c4,f0⟩:=cells5 h.blk;have gh:=Hd (Zqa o s.pb d.pool ⟨0,v,lo,hi,0⟩ w h.pool hlt);have h9:Hid (Zaz ⟨0,v,lo,hi,0⟩=.agg #[.int .i64 0,.int .i64 v,.int .i64 lo,.int .i64 hi,.int .i64 0]):=rfl;have HH:=Hd h;have hd:=Hd hlt;have gP:=Hd (fun p' id j hr h1 h2=>Zvs (p':=p') (id:=id) (v:=v) (lo:=lo) (hi:=hi) (j:=j) hl hok hr h1 h2);have gA:Hid (d.dead<=1048577):=by
  show _<=_
  have h1:=hl.dead;have h2:=Ziq (f:=dead1 (Zaa d) (Zau d)) (B:=1) d.pool.at_.length (fun i _=>by unfold dead1;split<;>first|omega|(split<;>omega));have h3:Zec d.pool.at_.length (Zaa d) (Zau d)=Zas d.pool.at_.length (dead1 (Zaa d) (Zau d)):=rfl;have h4:=h.pool.top;have h5:=h.pool.room;omega
 have HV:=Hd hv;have HT:=Hd ht;clear h hlt hl hok hv ht
 go_enter func248,ntmps248
 go_wp2_with fail;rw[<- h9.out];refine gh.out.mono ?_;rintro x w1 (⟨hm,rfl,hb⟩|⟨id,p',o1,rfl,hp,hr,hc,g7⟩)
 ·have HM:=Hd hm;have HB:=Hd hb;clear hm hb;go_wp2_with fail
  go_ret2
  exact .inl ⟨HM.out,rfl,HB.out⟩
 ·have st1:=HH.out.setPool hd.out hp hc;have gU:=hp.tk_lt (i:=id) (by have h1:=hr.get id;unfold Zal.get at h1;rw[if_pos rfl] at h1;split at h1;(· assumption);cases h1);have gS:=hp.top;have gT:=hp.room;have gJ:Hid (AddS o w sb { d with pool:=p' } s.ts s.vt o1 w1):=⟨⟨s,st1,rfl,rfl⟩,g7,hc.mono (fun r hr=>by simp[Zap,hr])⟩;have HR:=Hd hr;have hw:id<=1048577:=by omega
  clear hp hr hc g7 st1 gh gU gS gT c0 c1 c2 c3 c4 f0;go_wp2_with fail
  go_loopg [] (id+1-d.counts.length) (fun gk wx=>∃ (j:Nat) (o2:Own),AddS o w sb { d with pool:=p',counts:=padC d.counts j } s.ts s.vt o2 wx/\j+gk=id+1-d.counts.length)
  case atStart=>exact⟨0,o1,by have e:padC d.counts 0=d.counts:=by { simp[padC] };rw[e];exact gJ.out,by omega⟩
  case round =>
   obtain⟨j,o2,hS,hj⟩:=hrel;obtain⟨⟨s2,g0,gm,g4⟩,ge,gg⟩:=hS;clear gJ;obtain⟨c0,c1,c2,c3,c4,f0⟩:=cells5 g0.blk;have lsb:sb<wr.heap.size:=Zab c0;have g6:(padC d.counts j).length<=1048578:=by rw[Zih];omega
   have g9:=Hd g0;have gi:=Hd ge;have gL:=Hd gg;have h6:=Hd gm;have gZ:=Hd g4
   by_cases hlt:(padC d.counts j).length<=id
   ·obtain⟨a,cap,hv,hA,gI,hq,_⟩:=g0.counts.slice;have g3:s2.vc=.slice a (padC d.counts j).length cap:=hv;rw[g3] at c3;have HJ:=Hd hj;have gy:RowR o2 wr .counts 3 1 (.slice a (padC d.counts j).length cap) (padC d.counts j).length ((padC d.counts j).map nat64):=by have:=g0.counts;rw[g3] at this;exact this
    have hz:0<gk:=by rw[Zih] at hlt;omega
    have gd:((padC d.counts j).length:Int)<=id:=by omega
    obtain⟨cl,g2⟩:∃ n,n=(padC d.counts j).length:=⟨_,rfl⟩;rw[<- g2] at g6 hlt gd c3 gy;have gQ:=Hd gy;have hh:=Hd g2;clear g0 ge gg gm g4 hv g3 gy hj g2
    go_wp2_with (at_builtin
                 refine Zdq 22 3 1 8 _ underlying22 Zwu rfl (by decide) rfl _ _ rfl rfl rfl rfl (by simp) rfl (fun u hu=>by simp at hu;subst hu;rfl) gQ.out gi.out (by omega) (by decide) ?_;intro g1 k1 w2 o3 gD gu g7;obtain⟨q0,q1,q2,q3,q4,fq⟩:=cells5 ((gu.same gi.out g9.out.own (by simp)).trans g9.out.blk);have ha:=Hd gD;have gz:=Hd gu;have hf:=Hd g7;clear gD gu g7 c0 c1 c2 c3 c4 f0)
    have go:=ha.out;rw[show (padC d.counts j).map nat64++(#[Value.int .i64 0]:Array Value).toList=(padC d.counts (j+1)).map nat64 from by rw[Zxy,List.map_append];rfl] at go;have e1:cl+1=(padC d.counts (j+1)).length:=by rw[hh.out,Zih,Zih];omega
    have gO:=Hd (g9.out.setVc (cs:=padC d.counts (j+1)) gi.out (by rw[<- e1];exact go) gz.out);have h8:Hid (AddS o w sb { d with pool:=p',counts:=padC d.counts (j+1) } s.ts s.vt o3 (w2.setCell ⟨sb,3,none⟩ (.slice (some ⟨g1,0,none⟩) (cl+1) k1))):=⟨⟨_,gO.out,h6.out,gZ.out⟩,hf.out.mono (by simp[World.setCell]),(gL.out.trans (gz.out.mono (fun r hr=>by simp[Zap,hr]))).setCell (p:=⟨sb,3,none⟩) (gz.out.ext _ _ g9.out.own) (.inl rfl) _⟩;clear go e1
    go_roundg (gk-1)
    case measure=>omega
    case rel=>exact⟨j+1,o3,h8.out,by have:=HJ.out;omega⟩
   ·have g5:id<(padC d.counts j).length:=by omega
    have gd:(id:Int)<(padC d.counts j).length:=by omega
    obtain⟨gc,cap,gj,gF,gp,gV,gI,gG,gf⟩:=g0.countsAt g5;have g3:s2.vc=.slice (some ⟨gc,0,none⟩) (padC d.counts j).length cap:=gj;rw[g3] at c3;have gY:=gf _ g5;have gX:=gG id;have gM:sb≠gc:=fun e=>gp e.symm
    have st3:=g0.setCount gj gp id 0;have lt3:Zah o2 (wr.setCell ⟨gc,id,none⟩ (.int .i64 ((0:Nat):Int))):=ge.mono (by simp[World.setCell]);have st4:=st3.setDead lt3 (d.dead+1);have lt4:Zah o2 ((wr.setCell ⟨gc,id,none⟩ (.int .i64 ((0:Nat):Int))).setCell ⟨sb,4,none⟩ (.int .i64 ((d.dead+1:Nat):Int))):=lt3.mono (by simp[World.setCell]);have ch4:=(gg.setCell (p:=⟨gc,id,none⟩) gF (by simp[Zap]) (.int .i64 ((0:Nat):Int))).setCell (p:=⟨sb,4,none⟩) g0.own (by simp[Zap]) (.int .i64 ((d.dead+1:Nat):Int));have gH:d.dead<=1048577:=gA.out;have g8:(padC d.counts j).length<=9223372036854775807:=by omega
    obtain⟨W4,gv⟩:∃ W,W=(wr.setCell ⟨gc,id,none⟩ (.int .i64 ((0:Nat):Int))).setCell ⟨sb,4,none⟩ (.int .i64 ((d.dead+1:Nat):Int)):=⟨_,rfl⟩;rw[<- gv] at st4 lt4 ch4;have gw:Hid (W4=(wr.setCell ⟨gc,id,none⟩ (.int .i64 0)).setCell ⟨sb,4,none⟩ (.int .i64 ((d.dead:Int)+1))):=by
     show _=_
     rw[gv,show ((d.dead+1:Nat):Int)=(d.dead:Int)+1 from by omega];rfl
    have ga:=Hd st4;have gK:=Hd lt4;have hn:=Hd ch4;have hg:=Hd g5;obtain⟨cl,g2⟩:∃ n,n=(padC d.counts j).length:=⟨_,rfl⟩;rw[<- g2] at gd c3 g6 g8;have gR:Hid ((padC d.counts j).length<=1048578):=by show _<=_;omega
    obtain⟨dn,gq⟩:∃ n,n=d.dead:=⟨_,rfl⟩;have c4':wr.cell? ⟨sb,4,none⟩=some (.int .i64 (dn:Nat)):=by rw[gq];exact c4
    rw[<- gq] at gH gw;clear g0 ge gg gm g4 gj gF gp gV gI gG gf g3 st3 lt3 st4 lt4 ch4 gv hlt g5 c4 g2 gq g9 gi gL hj;have gN:¬ ((cl:Int)<=id):=by omega
    go_upto_region 8 with fail;rw[<- gw.out];clear gw c0 c1 c2 c3 c4' f0 gY gX gM gd gN gH g6 g8;obtain⟨c0,c1,c2,c3,c4,f0⟩:=cells5 ga.out.blk;obtain⟨gt,ct,g4,cellv,gB⟩:=ga.out.tabAt (v:=v) HV.out;rw[g4] at c2;have gC:=ga.out.tab v (by rw[ga.out.tlen];exact HV.out);have gx:=Hd (Zx4 o2 v (s2.ts.getD v 0) (d.tab v) lo hi id W4 gC gK.out HT.out);have ho:(v:Int)<s2.ts.length:=by omega
    obtain⟨tv,gl⟩:∃ t,t=s2.ts.getD v 0:=⟨_,rfl⟩;rw[<- gl] at cellv gx;have h0:=Hd gl;have hy:s2.ts.length<=9223372036854775807:=gB.2;clear gC gl g4 gB;go_wp2_with fail;refine gx.out.mono ?_;rintro x w5 ⟨rfl,gn,gr,gE⟩;rw[h0.out] at gn;have h7:=Hd (ga.out.setTab gK.out gn gr);have he:=Hd gE;have hk:=Hd (hn.out.trans (gr.mono (fun r hr=>by simp[Zap,hr])));clear gn gr gE c0 c1 c2 c3 c4 f0 cellv;go_wp2_with fail
    go_ret2
    exact .inr ⟨id,d.added p' (padC d.counts j) id v lo hi,o2,rfl,⟨s2,h7.out⟩,he.out,gP.out p' id j HR.out hg.out gR.out,hk.out⟩
open Go.RowKit
def levN (d:Zad)(v:Nat):Nat:=d.level.getD v 0
structure Zak (d:Zad)(V:Nat->BF):Prop where
 dag:Dag d.vars.length (levN d) (Zaa d) V
 live:Zb9 d (Zaw d)
 tab:∀ v,v<d.vars.length->∀ lo hi id,d.tab v (lo,hi)=some id↔Zaa d id=some ⟨v,lo,hi⟩
 clen:d.counts.length<=1048578
 small:d.vars.length<=64
 inv:∀ v,v<d.vars.length->d.vars.getD (levN d v) 0=v
 vlt:∀ i,i<d.vars.length->d.vars.getD i 0<d.vars.length/\levN d (d.vars.getD i 0)=i
structure Ext (d:Zad)(V:Nat->BF)(d':Zad)(V':Nat->BF):Prop where
 vars:d'.vars=d.vars
 level:d'.level=d.level
 room:d'.pool.room=d.pool.room
 nodes:∀ i b,Zaa d i=some b->Zaa d' i=some b
 val:∀ i,(i=0\/∃ b,Zaa d i=some b)->V' i=V i
 ext:∀ i b,Zaa d i=some b->Zaw d' i=Zaw d i
 ext0:∀ i,Zaa d i=none->Zaw d' i=0
 many:d.pool.many<=d'.pool.many
theorem Zei {d:Zad}{i:Nat}(h:Zaa d i=none):Zaw d i=0:=by unfold Zaw;rw[Zgh h];simp
theorem Ext.refl (d:Zad)(V:Nat->BF):Ext d V d V:=⟨rfl,rfl,rfl,fun _ _ h=>h,fun _ _=>rfl,fun _ _ _=>rfl,fun _ h=>Zei h,Nat.le_refl _⟩
theorem Ext.trans {d d' d'':Zad}{V V' V'':Nat->BF}(h:Ext d V d' V')(h':Ext d' V' d'' V''):Ext d V d'' V'':=by
 refine⟨h'.vars.trans h.vars,h'.level.trans h.level,h'.room.trans h.room,fun i b hb=>h'.nodes i b (h.nodes i b hb),fun i hi=>?_,fun i b hb=>?_,fun i hi=>?_,Nat.le_trans h.many h'.many⟩
 . rw[h'.val i (hi.imp id fun⟨b,hb⟩=>⟨b,h.nodes i b hb⟩)];exact h.val i hi
 . rw[h'.ext i b (h.nodes i b hb)];exact h.ext i b hb
 ·cases e:Zaa d' i with
  | none=>exact h'.ext0 i e
  | some b=>rw[h'.ext i b e];exact h.ext0 i hi
section
variable {d d':Zad}{V V':Nat->BF}
theorem Ext.ok (h:Ext d V d' V'){e:Nat}(he:okE (Zaa d) e):okE (Zaa d') e:=he.imp id fun⟨b,hb⟩=>⟨b,h.nodes _ b hb⟩
theorem Ext.ef (h:Ext d V d' V'){e:Nat}(he:okE (Zaa d) e):ef V' e=ef V e:=by
 funext ρ;unfold Go.Proofs.YtkidaindpahefaaGreat.ef;rw[h.val (e/2) he]
theorem Ext.lev (h:Ext d V d' V'):levN d'=levN d:=by funext v;unfold levN;rw[h.level]
theorem Ext.lvE (h:Ext d V d' V'){n:Nat}{e:Nat}(he:okE (Zaa d) e)(h0:Zaa d 0=none)(h0':Zaa d' 0=none):lvE n (levN d') (Zaa d') e=lvE n (levN d) (Zaa d) e:=by
 unfold Go.Proofs.YtkidaindpahefaaGreat.lvE;rw[h.lev];rcases he with he|⟨b,hb⟩
 . rw[he,h0,h0']
 . rw[hb,h.nodes _ b hb]
theorem Zvr {id v lo hi:Nat}(h:Zak d V)(r:Zj8 d d' id v lo hi)(hv:v<d.vars.length)(hlo:okE (Zaa d) lo)(hhi:okE (Zaa d) hi)
 (llo:levN d v<lvE d.vars.length (levN d) (Zaa d) lo) (lhi:levN d v<lvE d.vars.length (levN d) (Zaa d) hi) (hr:hi%2=0) (hne:lo≠hi) (ht:d.tab v (lo,hi)=none) :
 Zak d' (addV V id ⟨v,lo,hi⟩)/\Ext d V d' (addV V id ⟨v,lo,hi⟩):=by
 have g1:∀ i,Zaa d i≠some ⟨v,lo,hi⟩:=fun i e=>by rw[(h.tab v hv lo hi i).2 e] at ht;cases ht
 have hl:levN d'=levN d:=by funext u;unfold levN;rw[r.level]
 have hid:id≠0:=by have:=r.pos;omega
 refine⟨⟨?_,r.live,fun u hu lo' g0 i=>?_,r.clen,by rw[r.vars];exact h.small,?_,?_⟩,⟨r.vars,r.level,r.room,fun i b hb=>?_,fun i g0=>?_,fun i b hb=>?_,fun i g0=>?_,by rw[r.many];omega⟩⟩
 . rw[r.vars,hl,r.nodes];exact h.dag.add r.none hid hv hlo hhi llo lhi hr hne g1
 ·rw[r.vars] at hu;rw[r.tab,r.nodes];dsimp only
  by_cases e:u=v
  ·subst e;rw[if_pos rfl];unfold putF
   by_cases e2:(lo',g0)=(lo,hi)
   ·cases e2;rw[if_pos rfl];constructor
    . intro e3;cases e3;rw[Zbs]
    ·intro e3
     by_cases e4:i=id
     . rw[e4]
     . rw[Za2 _ e4] at e3;exact absurd e3 (g1 i)
   ·rw[if_neg e2,h.tab u hu]
    by_cases e4:i=id
    ·subst e4;rw[Zbs,r.none];constructor
     . intro e5;cases e5
     . intro e5;cases e5;exact absurd rfl e2
    . rw[Za2 _ e4]
  ·rw[if_neg e,h.tab u hu]
   by_cases e4:i=id
   ·subst e4;rw[Zbs,r.none];constructor
    . intro e5;cases e5
    . intro e5;cases e5;exact absurd rfl e
   . rw[Za2 _ e4]
 . rw[r.vars,hl];exact h.inv
 . rw[r.vars,hl];exact h.vlt
 . rw[r.nodes];exact Znc r.none hb
 ·unfold addV;rw[if_neg];rintro rfl;rcases g0 with g0|⟨b,hb⟩
  . exact hid g0
  . rw[r.none] at hb;cases hb
 . rw[r.ext];dsimp only;rw[if_neg];rintro rfl;rw[r.none] at hb;cases hb
 ·rw[r.ext];dsimp only;split
  . rfl
  . exact Zei g0
theorem Zxt (h:Zak d V){id v lo hi:Nat}(hb:Zaa d id=some ⟨v,eflip lo (eneg hi),eflip hi (eneg hi)⟩):ef V (eflip (2*id) (eneg hi))=iteF v (ef V hi) (ef V lo):=by
 funext ρ;have h1:=h.dag.eqn id _ hb;have h2:ef V (2*id)=V id:=by
  funext ρ;have e1:2*id/2=id:=by omega
  have e2:2*id%2=0:=by omega
  simp[ef,e1,e2]
 rw[Zc5,h2,h1];simp only[iteF];rw[Zc5,Zc5];cases ρ v<;>cases eneg hi<;>simp
theorem Zmd (hi:Nat):eflip hi (eneg hi)%2=0:=by
 unfold eflip eneg;rcases Nat.mod_two_eq_zero_or_one hi with h|h
 . simp[h]
 . simp[h,Znm]
theorem Zjx {lo hi:Nat}{b:Bool}(h:lo≠hi):eflip lo b≠eflip hi b:=by
 unfold eflip;cases b
 . simpa using h
 . simp only[if_true];intro e;have:=congrArg enot e;rw[Zo8,Zo8] at this;exact h this
theorem Zd4 {n:Nat}{lev:Nat->Nat}{N:Nat->Option BN}{e:Nat}{b:Bool}:lvE n lev N (eflip e b)=lvE n lev N e:=by unfold lvE;rw[Zcs]
end
def Zf1 (d:Zad)(v:Int):Int:=if 0<=v/\v<d.level.length then (levN d v.toNat:Nat) else -1
theorem Zuf (d:Zad)(v:Nat):Zf1 d v=d.levelOf v:=by
 unfold Zf1 Zad.levelOf levN
 by_cases h:v<d.level.length
 . rw[if_pos ⟨by omega,by omega⟩,if_pos h];rfl
 . rw[if_neg (by omega),if_neg h]
theorem Zkt {o:Own}{w:World}{sb:Nat}{d:Zad}{s:Za5}(h:Zam o w sb d s)(v:Int)(hv:v<0) :
 Calls prog 195 #[.pointer (some ⟨s.lb,0,none⟩),.int .i64 v] w fun x w'=>x=.returned (.int .i64 (-1))/\w=w':=by
 clear h
 go_enter func195,ntmps195
 go_wp2_with fail;go_ret;exact⟨rfl,rfl⟩
theorem Zl3 {o:Own}{w:World}{sb:Nat}{d:Zad}{s:Za5}(h:Zam o w sb d s)(v:Int)(hv:v<0) :
 Calls prog 142 #[.pointer (some ⟨sb,0,none⟩),.int .i64 v] w fun x w'=>x=.returned (.int .i64 (-1))/\w=w':=by
 obtain⟨c0,c1,c2,c3,c4,f0⟩:=cells5 h.blk;have HC:=Hd (Zkt h v hv);clear h hv
 go_enter func142,ntmps142
 go_wp2_with fail;refine HC.out.mono ?_;rintro x w' ⟨rfl,rfl⟩;go_wp2_with fail;go_ret;exact⟨rfl,rfl⟩
theorem Zhu {o:Own}{w:World}{sb:Nat}{d:Zad}{s:Za5}(h:Zam o w sb d s)(v:Int)(hbig:d.level.length<1000000) :
 Calls prog 142 #[.pointer (some ⟨sb,0,none⟩),.int .i64 v] w fun x w'=>x=.returned (.int .i64 (Zf1 d v))/\w=w':=by
 by_cases h0:v<0
 ·have e:Zf1 d v = -1:=by unfold Zf1;rw[if_neg (by omega)]
  rw[e];exact Zl3 h v h0
 . obtain⟨n,rfl⟩:=Int.eq_ofNat_of_zero_le (by omega:0<=v);have e:=Zuf d n;rw[e];exact Ze3 h n hbig
open Go.RowKit
def Zvj (o:Own)(w:World)(sb:Nat)(d:Zad)(V:Nat->BF)(v:Int)(lo hi:Nat)(e:Ending)(w':World):Prop :=
 (¬ (0<=v/\v<d.vars.length)/\e=.returned (.tuple #[.int .i64 0,.int .i64 9])/\Below w.heap.size w w') \/
 (0<=v/\v<d.vars.length/\(lvE d.vars.length (levN d) (Zaa d) lo<=levN d v.toNat\/lvE d.vars.length (levN d) (Zaa d) hi<=levN d v.toNat)/\e=.returned (.tuple #[.int .i64 0,.int .i64 10])/\Below w.heap.size w w') \/
 (d.pool.many=d.pool.room/\e=.returned (.tuple #[.int .i64 0,.int .i64 7])/\Below w.heap.size w w') \/
 (0<=v/\v<d.vars.length/\∃ r d' V' o',e=.returned (.tuple #[.int .i64 (r:Nat),.int .i64 0])/\Zar o' w' sb d'/\Zah o' w'/\Zak d' V'/\Ext d V d' V'/\okE (Zaa d') r /\
  ef V' r=iteF v.toNat (ef V hi) (ef V lo)/\levN d v.toNat<=lvE d.vars.length (levN d') (Zaa d') r/\d'.pool.many<=d.pool.many+1/\Chg Zap o o' w w')
theorem Ya4 {o:Own}{w:World}{sb:Nat}{d:Zad}{s:Za5}{V:Nat->BF}(h:Zam o w sb d s)(hk:Zak d V){f:Nat}(hf:okE (Zaa d) f){lv:Nat}(hl:lv<d.vars.length) :
 (decide (enode f=0)||(d.pool.tk (enode f)&&decide ((lv:Int)<d.levelOf (d.pool.has (enode f)).v)))=decide (lv<lvE d.vars.length (levN d) (Zaa d) f):=by
 unfold lvE;rcases hf with h0|⟨b,hb⟩
 . have e:enode f=0:=h0;rw[h0,hk.dag.none0,e];simp[hl]
 ·have hn:=Za1 (i:=enode f) hb;have e0:enode f≠0:=by have:=(h.tk_lt (i:=enode f) hb).1;omega
  rw[hb,hn.1];have hv:(d.pool.has (enode f)).v=b.v:=by rw[<- hn.2.2];rfl
  have g0:=hk.dag.var _ _ hb;rw[hv];unfold Zad.levelOf;rw[if_pos (by rw[h.len];exact g0)];simp[e0,levN]
theorem Ydy {d:Zad}{f:Nat}(hf:okE (Zaa d) f):(decide (enode f=0)||d.pool.tk (enode f))=true:=by
 rcases hf with h0|⟨b,hb⟩
 . have e:enode f=0:=h0;simp[e]
 . rw[(Za1 (i:=enode f) hb).1];simp
theorem Yd3 {o:Own}{w:World}{sb:Nat}{d:Zad}{s:Za5}{V:Nat->BF}(h:Zam o w sb d s)(hk:Zak d V)(v:Int)(lo hi:Nat)(hv:¬ (0<=v/\v<d.vars.length)) :
 Calls prog 199 #[.pointer (some ⟨sb,0,none⟩),.int .i64 v,.int .i64 lo,.int .i64 hi] w (Zvj o w sb d V v lo hi):=by
 have g0:=Hd (Zhu h v (by rw[h.len];have:=hk.small;omega));have e:Zf1 d v = -1:=by unfold Zf1;rw[if_neg (by rw[h.len];exact hv)]
 rw[e] at g0;have HV:=Hd hv;clear h hk e hv
 go_enter func199,ntmps199
 go_wp2_with fail;refine g0.out.mono ?_;rintro x w' ⟨rfl,rfl⟩;go_wp2_with fail
 go_ret2
 exact .inl ⟨HV.out,rfl,Below.refl _ _⟩
section
variable {o:Own}{w:World}{sb:Nat}{d:Zad}{s:Za5}{V:Nat->BF}
theorem Yd2 (h:Zam o w sb d s)(hlt:Zah o w)(hk:Zak d V)(v lo hi:Nat)(hv:v<d.vars.length)(hlo:okE (Zaa d) lo)(hhi:okE (Zaa d) hi){P:Ending->World->Prop}
 (h1:¬ (levN d v<lvE d.vars.length (levN d) (Zaa d) lo/\levN d v<lvE d.vars.length (levN d) (Zaa d) hi)->∀ W,Below w.heap.size w W->P (.returned (.tuple #[.int .i64 0,.int .i64 10])) W)
 (h2:levN d v<lvE d.vars.length (levN d) (Zaa d) lo->levN d v<lvE d.vars.length (levN d) (Zaa d) hi->(lo=hi->∀ W,Below w.heap.size w W->P (.returned (.tuple #[.int .i64 (lo:Nat),.int .i64 0])) W) /\
  (lo≠hi->(∀ id,d.tab v (eflip lo (eneg hi),eflip hi (eneg hi))=some id->∀ W,Below w.heap.size w W->P (.returned (.tuple #[.int .i64 (eflip (2*id) (eneg hi):Nat),.int .i64 0])) W) /\
   (d.tab v (eflip lo (eneg hi),eflip hi (eneg hi))=none->(∀ W,Below w.heap.size w W->d.pool.many=d.pool.room->P (.returned (.tuple #[.int .i64 0,.int .i64 7])) W) /\
    ∀ W W' id d' o',Below w.heap.size w W->Zar o' W' sb d'->Zah o' W'->Zj8 d d' id v (eflip lo (eneg hi)) (eflip hi (eneg hi))->Chg Zap o o' W W'->P (.returned (.tuple #[.int .i64 (eflip (2*id) (eneg hi):Nat),.int .i64 0])) W'))) :
 Calls prog 199 #[.pointer (some ⟨sb,0,none⟩),.int .i64 v,.int .i64 lo,.int .i64 hi] w P:=by
 have gB:levN d v<d.vars.length:=hk.dag.lt v hv;have gK:=h.edge_lt hlo;have gL:=h.edge_lt hhi;have ga:lo<eMax:=by unfold eMax;omega
 have ge:hi<eMax:=by unfold eMax;omega
 have gc:d.level.length<1000000:=by rw[h.len];have:=hk.small;omega
 obtain⟨bl,gg⟩:∃ b,b=decide (levN d v<lvE d.vars.length (levN d) (Zaa d) lo):=⟨_,rfl⟩;obtain⟨bh,gh⟩:∃ b,b=decide (levN d v<lvE d.vars.length (levN d) (Zaa d) hi):=⟨_,rfl⟩;have g7:Hid (∀ W:World,Below w.heap.size w W->Calls prog 142 #[.pointer (some ⟨sb,0,none⟩),.int .i64 v] W fun x w'=>x=.returned (.int .i64 (levN d v:Nat))/\W=w'):=fun W hb=>by
  have h1:=Ze3 (h.below hlt hb) v gc;unfold Zad.levelOf at h1;rw[if_pos (by rw[h.len];exact hv)] at h1;exact h1
 have gx:Hid (∀ W (f:Nat),Below w.heap.size w W->okE (Zaa d) f->Calls prog 198 #[.pointer (some ⟨sb,0,none⟩),.int .i64 f] W fun x w'=>x=.returned (.bool true)/\Below W.heap.size W w'):=fun W f hb hf=>by
  have gN:=h.edge_lt hf;have h1:=Zdx (h.below hlt hb) (hlt.mono hb.size) f (by unfold eMax;omega);rw[Ydy hf] at h1;exact h1
 have gn:Hid (∀ W (f:Nat),Below w.heap.size w W->okE (Zaa d) f->Calls prog 245 #[.pointer (some ⟨sb,0,none⟩),.int .i64 f,.int .i64 (levN d v:Nat)] W fun x w'=>x=.returned (.bool (decide (levN d v<lvE d.vars.length (levN d) (Zaa d) f)))/\Below W.heap.size W w'):=fun W f hb hf=>by
  have gN:=h.edge_lt hf;have h1:=Zl4 (h.below hlt hb) (hlt.mono hb.size) f (by unfold eMax;omega) (levN d v:Nat) gc;rw[Ya4 h hk hf gB] at h1;exact h1
 have gi:=Hd fun W hb=>gn.out W lo hb hlo
 have gj:=Hd fun W hb=>gn.out W hi hb hhi
 have gv:=Hd fun W hb=>gx.out W lo hb hlo
 have gw:=Hd fun W hb=>gx.out W hi hb hhi
 rw[<- gg] at gi;rw[<- gh] at gj;have gu:Hid ((bl&&bh)=false->∀ W,Below w.heap.size w W->P (.returned (.tuple #[.int .i64 0,.int .i64 10])) W):=Hd fun e=>h1 fun c=>by
  rw[gg,gh,decide_eq_true c.1,decide_eq_true c.2] at e;cases e
 have gr:Hid (bl=true->bh=true->_):=Hd fun e1 e2=>h2 (of_decide_eq_true (by rw[<- gg];exact e1)) (of_decide_eq_true (by rw[<- gh];exact e2))
 obtain⟨l,hl⟩:∃ l,l=levN d v:=⟨_,rfl⟩;rw[<- hl] at g7 gi gj;have gS:¬ ((l:Nat):Int)<0:=by omega
 have HH:=Hd h;have g8:=Hd hlt;have HV:=Hd hv;have HK:=Hd hk;clear h hlt hk hv hlo hhi gB gK gL gc hl h1 h2 gg gh gn gx
 go_enter func199,ntmps199
 go_wp2_with fail;refine(g7.out _ (Below.refl _ _)).mono ?_;rintro x w' ⟨rfl,rfl⟩;go_wp2_with fail;refine(gv.out _ (Below.refl _ _)).mono ?_;rintro x w1 ⟨rfl,gI⟩;have gy:=Hd gI;clear gI;go_wp2_with fail;refine(gw.out _ gy.out).mono ?_;rintro x w2 ⟨rfl,gH⟩;have HB2:=Hd (gy.out.trans (gH.mono gy.out.size));clear gH;go_wp2_with fail;refine(g7.out _ HB2.out).mono ?_;rintro x w' ⟨rfl,rfl⟩;go_wp2_with fail;refine(gi.out _ HB2.out).mono ?_;rintro x w3 ⟨rfl,gG⟩;have g9:=Hd (HB2.out.trans (gG.mono HB2.out.size));clear gG;cases bl with
 | false =>
   go_wp2_with fail;have HZ:=Hd (gu.out (by first|rfl|trivial) _ g9.out)
   first|exact HZ.out|exact bodyPost_ret (results_tmp2 rfl _ _ _) rfl HZ.out
 | true =>
   go_wp2_with fail;refine(g7.out _ g9.out).mono ?_;rintro x w' ⟨rfl,rfl⟩;go_wp2_with fail;refine(gj.out _ g9.out).mono ?_;rintro x w4 ⟨rfl,gF⟩;have g0:=Hd (g9.out.trans (gF.mono g9.out.size));clear gF;cases bh with
   | false =>
     go_wp2_with fail;have HZ:=Hd (gu.out (by first|rfl|trivial) _ g0.out)
     first|exact HZ.out|exact bodyPost_ret (results_tmp2 rfl _ _ _) rfl HZ.out
   | true =>
     have gq:=Hd (gr.out (by first|rfl|trivial) (by first|rfl|trivial)).1;have gl:=Hd (gr.out (by first|rfl|trivial) (by first|rfl|trivial)).2;clear gu gr g7 gv gw gi gj
     by_cases he:lo=hi
     ·subst he;have HF:=Hd (gq.out rfl _ g0.out);clear gl gq;go_wp2_with fail
      first|exact HF.out|exact bodyPost_ret (results_tmp2 rfl _ _ _) rfl HF.out
     ·have gp:=Hd (gl.out he).1;have gk:=Hd (gl.out he).2;have gQ:((lo:Int) == hi)=false:=by simp;omega
      have g1:=Hd (fun W=>Znz lo hi W ga ge);have gm:=Hd (fun id W (hh:id<2305843009213693952)=>Zxw id (eneg hi) W hh);obtain⟨gt,ct,gA,cellv,gM,gR⟩:=(HH.out.below g8.out g0.out).tabAt HV.out;obtain⟨c0,c1,c2,c3,c4,f0⟩:=cells5 (HH.out.below g8.out g0.out).blk;rw[gA] at c2;have gP:(v:Int)<s.ts.length:=by omega
      have gf:=(HH.out.below g8.out g0.out).tab v gM;clear gA gl gq;cases ht:d.tab v (eflip lo (eneg hi),eflip hi (eneg hi)) with
      | some id =>
        have gd:=(HH.out.tk_lt ((HK.out.tab v HV.out _ _ id).1 ht)).2;have g4:=Hd (Znp o v (s.ts.getD v 0) (d.tab v) (eflip lo (eneg hi)) (eflip hi (eneg hi)) id _ gf ht);have HF:=Hd (gp.out id ht _ g0.out);have gJ:=Hd (fun W=>gm.out id W (by omega));obtain⟨tv,g5⟩:∃ t,t=s.ts.getD v 0:=⟨_,rfl⟩;rw[<- g5] at cellv g4;obtain⟨lo2,g2⟩:∃ x,x=eflip lo (eneg hi):=⟨_,rfl⟩;obtain⟨gD,g3⟩:∃ x,x=eflip hi (eneg hi):=⟨_,rfl⟩;obtain⟨ng,g6⟩:∃ x,x=eneg hi:=⟨_,rfl⟩;rw[<- g2,<- g3] at g1 g4;rw[<- g6] at g1 gJ HF;clear gf g5 ht gd gm gp gk g2 g3 g6 ga ge he;go_wp2_with fail;refine(g1.out _).mono ?_;rintro x w' ⟨rfl,rfl⟩;go_wp2_with fail;refine g4.out.mono ?_;rintro x w' ⟨rfl,rfl⟩;go_wp2_with fail;refine(gJ.out _).mono ?_;rintro x w' ⟨rfl,rfl⟩;go_wp2_with fail
        first|exact HF.out|exact bodyPost_ret (results_tmp2 rfl _ _ _) rfl HF.out
      | none =>
        have g4:=Hd (Zrj o v (s.ts.getD v 0) (d.tab v) (eflip lo (eneg hi)) (eflip hi (eneg hi)) _ gf ht);have gz:=Hd (Zjp (HH.out.below g8.out g0.out) (g8.out.mono g0.out.size) HK.out.live (fun i b hb=>⟨HK.out.dag.okLo i b hb,HK.out.dag.okHi i b hb⟩) v (eflip lo (eneg hi)) (eflip hi (eneg hi)) HV.out ht HK.out.clen);have gO:=Hd (gk.out ht).1;have go:=Hd (gk.out ht).2;obtain⟨tv,g5⟩:∃ t,t=s.ts.getD v 0:=⟨_,rfl⟩;rw[<- g5] at cellv g4;obtain⟨lo2,g2⟩:∃ x,x=eflip lo (eneg hi):=⟨_,rfl⟩;obtain⟨gD,g3⟩:∃ x,x=eflip hi (eneg hi):=⟨_,rfl⟩;obtain⟨ng,g6⟩:∃ x,x=eneg hi:=⟨_,rfl⟩;rw[<- g2,<- g3] at g1 g4 gz go;rw[<- g6] at g1 gm go;clear gf g5 ht gp gk g2 g3 g6 ga ge he;go_wp2_with fail;refine(g1.out _).mono ?_;rintro x w' ⟨rfl,rfl⟩;go_wp2_with fail;refine g4.out.mono ?_;rintro x w' ⟨rfl,rfl⟩;go_wp2_with fail;refine gz.out.mono ?_;rintro x w6 (⟨hm,rfl,gE⟩|⟨id,d',o',rfl,hs,gC,hr,hc⟩)
        ·have HF:=Hd (gO.out _ (g0.out.trans (gE.mono g0.out.size)) hm);clear hm gE c0 c1 c2 c3 c4 f0 cellv;go_wp2_with fail
         first|exact HF.out|exact bodyPost_ret (results_tmp2 rfl _ _ _) rfl HF.out
        ·have HF:=Hd (go.out _ _ id d' o' g0.out hs gC hr hc);have gd:id<2305843009213693952:=by
          obtain⟨s',hs'⟩:=hs;have:=hs'.tk_lt (i:=id) (b:=⟨v,lo2,gD⟩) (by rw[hr.nodes,Zbs]);omega
         clear hs gC hr hc c0 c1 c2 c3 c4 f0 cellv;go_wp2_with fail;refine(gm.out _ _ gd).mono ?_;rintro x w' ⟨rfl,rfl⟩;go_wp2_with fail
         first|exact HF.out|exact bodyPost_ret (results_tmp2 rfl _ _ _) rfl HF.out
theorem Zr4 (h:Zar o w sb d)(hlt:Zah o w)(hk:Zak d V)(v:Int)(lo hi:Nat)(hlo:okE (Zaa d) lo)(hhi:okE (Zaa d) hi) :
 Calls prog 199 #[.pointer (some ⟨sb,0,none⟩),.int .i64 v,.int .i64 lo,.int .i64 hi] w (Zvj o w sb d V v lo hi):=by
 obtain⟨s,h⟩:=h
 by_cases g1:0<=v/\v<d.vars.length
 ·obtain⟨n,rfl⟩:=Int.eq_ofNat_of_zero_le g1.1;have hv:n<d.vars.length:=by omega
  refine Yd2 h hlt hk n lo hi hv hlo hhi (fun c W hb=>.inr (.inl ⟨by omega,by omega,by rw[Int.toNat_natCast];omega,rfl,hb⟩)) fun g2 g3=>⟨fun he W hb=>?_,fun he=>⟨fun id hid W hb=>?_,fun hid=>⟨fun W hb hm=>.inr (.inr (.inl ⟨hm,rfl,hb⟩)),fun W W' id d' o' hb hs hl hr hc=>?_⟩⟩⟩
  . subst he;exact .inr (.inr (.inr ⟨by omega,by omega,lo,d,V,o,rfl,⟨s,h.below hlt hb⟩,hlt.mono hb.size,hk,Ext.refl d V,hlo,by funext ρ;simp[iteF],Nat.le_of_lt g2,by omega,Chg.of_below hb _ _⟩))
  ·have g0:=(hk.tab n hv _ _ id).1 hid
   exact .inr (.inr (.inr ⟨by omega,by omega,_,d,V,o,rfl,⟨s,h.below hlt hb⟩,hlt.mono hb.size,hk,Ext.refl d V,Zd5 (Zgi g0),
    Zxt hk g0,by rw[Zd4];unfold lvE;rw[show 2*id/2=id from by omega,g0];exact Nat.le_refl _,by omega,Chg.of_below hb _ _⟩))
  ·obtain⟨h1,h2⟩:=Zvr hk hr hv (Zd5 hlo) (Zd5 hhi) (by rw[Zd4];exact g2) (by rw[Zd4];exact g3) (Zmd hi) (Zjx he) hid;have g0:Zaa d' id=some ⟨n,eflip lo (eneg hi),eflip hi (eneg hi)⟩:=by rw[hr.nodes,Zbs]
   refine .inr (.inr (.inr ⟨by omega,by omega,_,d',_,o',rfl,hs,hl,h1,h2,Zd5 (Zgi g0),?_,?_,by rw[hr.many];omega,(Chg.of_below hb _ _).trans hc⟩))
   . rw[Zxt h1 g0,h2.ef hlo,h2.ef hhi];rfl
   . rw[Zd4,h2.lev];unfold lvE;rw[show 2*id/2=id from by omega,g0];exact Nat.le_refl _
 . exact Yd3 h hk v lo hi g1
end
open Go.RowKit
theorem Zuu {o:Own}{w w':World}{v:Value}{zs:List Int}(h:OwnI w' w.heap.size v zs)(hb:Below w.heap.size w w')(hlt:Zah o w)(r:Role) :
 ∃ o',RowR o' w' r 3 1 v zs.length (Za0 zs)/\Chg (· = r) o o' w w'/\Zah o' w':=by
 obtain⟨hl,h2⟩:=h;rcases h2 with ⟨h1,h0⟩|⟨g,cap,cur,h1,h2,h3,h4,h5,h6,h7⟩
 . exact⟨o,⟨hl,.inl ⟨h1,h0⟩⟩,Chg.of_below hb _ _,hlt.mono hb.size⟩
 ·have hg:g<w'.heap.size:=(Array.getElem?_eq_some_iff.1 h3).1;refine⟨Zcl o g r,⟨hl,.inr ⟨g,cap,cur,h1,Za8 _ _ _,h3,h4,h5,by omega,h7⟩⟩,⟨hb.os,hb.tape,hb.output,hb.size,fun k hk _=>hb.block k hk,fun k q hq=>Zc3 hlt h2 hq,fun k hk=>?_⟩,fun k q hq=>?_⟩
  ·by_cases e:k=g
   . subst e;exact⟨h2,r,Za8 _ _ _,rfl⟩
   . exact absurd (by simp[Zcl,e]) hk
  ·by_cases e:k=g
   . subst e;exact hg
   . simp only[Zcl,if_neg e] at hq;have:=hlt k q hq;have:=hb.size;omega
theorem Zph (o:Own)(n:Nat)(hn:n<=64)(r:Role)(w:World)(hlt:Zah o w) :
 Calls prog 140 #[.int .i64 n] w fun e w'=>∃ v o',e=.returned v/\RowR o' w' r 3 1 v n ((List.range n).map nat64)/\Chg (· = r) o o' w w'/\Zah o' w' :=
 (Zn3 n w).mono fun e w' ⟨v,h1,h2,h3⟩=>by
  obtain⟨o',a,b,c⟩:=Zuu h2 h3 hlt r;have e1:Zpg n=iota n:=by unfold Zpg;congr 1;omega
  have e2:Za0 (iota n)=(List.range n).map nat64:=by simp[Za0,iota,nat64]
  rw[e1,Zfq,e2] at a;exact⟨v,o',h1,a,b,c⟩
def store0 (n room:Nat):Zad:=⟨List.range n,List.range n,pool0 room,fun _ _=>none,[],0⟩
structure NewS (o:Own)(w:World)(n room sb:Nat)(s:Za5)(j:Nat)(o1:Own)(wx:World):Prop where
 own:o1 sb=some .store
 ownl:o1 s.lb=some .levels
 blk:wx.heap[sb]?=some (.cells #[.pointer (some ⟨s.lb,0,none⟩),.pointer (some ⟨s.pb,0,none⟩),s.vt,.slice none 0 0,.int .i64 0] 150 (0,0))
 lev:wx.heap[s.lb]?=some (.cells #[s.vv,s.vl] 152 (0,0))
 vars:RowR o1 wx .vars 3 1 s.vv n ((List.range n).map nat64)
 level:RowR o1 wx .level 3 1 s.vl n ((List.range n).map nat64)
 pool:Zaq o1 wx s.pb (pool0 room)
 tabs:RowR o1 wx .tabs 173 1 s.vt j (s.ts.map ptrV)
 tl:s.ts.length=j
 tab:∀ v,v<j->Zc9 o1 wx v (s.ts.getD v 0) (fun _=>none)
 chg:Chg Zap o o1 w wx
 lt:Zah o1 wx
 ge:w.heap.size<=sb
theorem NewS.done {o o1:Own}{w wx:World}{n room sb:Nat}{s:Za5}(h:NewS o w n room sb s n o1 wx):Zar o1 wx sb (store0 n room) :=
 ⟨{ s with vc:=.slice none 0 0 },h.own,h.ownl,h.blk,h.lev,by simpa [store0] using h.vars,by simpa [store0] using h.level,h.pool,by rw[h.tl];exact h.tabs,fun v hv=>h.tab v (by rw[<- h.tl];exact hv),RowR.nil _ _ _ _ _,rfl,by simp[store0,h.tl]⟩
theorem NewS.grown {o o1 o2 o3:Own}{w wx wy wz:World}{n room sb:Nat}{s:Za5}{j t g cap:Nat}(h:NewS o w n room sb s j o1 wx)(ht:Zc9 o2 wy j t (fun _=>none))(hc:Chg (fun r=>r=.tab j\/r=.tmap j) o1 o2 wx wy)(hl:Zah o2 wy)
 (hr:RowR o3 wz .tabs 173 1 (.slice (some ⟨g,0,none⟩) (j+1) cap) (j+1) (s.ts.map ptrV++[ptrV t])) (hc2:Chg (· = .tabs) o2 o3 wy wz) (hl2:Zah o3 wz) :
 NewS o w n room sb { s with vt:=.slice (some ⟨g,0,none⟩) (j+1) cap,ts:=s.ts++[t] } (j+1) o3 (wz.setCell ⟨sb,2,none⟩ (.slice (some ⟨g,0,none⟩) (j+1) cap)):=by
 have g0:Chg (fun r=>r=.tab j\/r=.tmap j\/r=.tabs) o1 o3 wx wz:=(hc.mono fun r e=>by rcases e with e|e;exact .inl e;exact .inr (.inl e)).trans (hc2.mono fun r e=>.inr (.inr e));have g1:=g0.ext _ _ h.own;have ne:∀ {a r},o3 a=some r->r ≠ .store->a≠sb:=fun ha hr e=>by subst e;rw[ha] at g1;cases g1;exact hr rfl
 have g3:=g0.ext _ _ h.ownl;have row:∀ {r e k v m xs},RowR o1 wx r e k v m xs->r ≠ .store->¬ (r=.tab j\/r=.tmap j\/r=.tabs)->RowR o3 (wz.setCell ⟨sb,2,none⟩ (.slice (some ⟨g,0,none⟩) (j+1) cap)) r e k v m xs:=fun hr h1 h2 =>
  (hr.chg g0 h.lt h2).setCell_other (p:=⟨sb,2,none⟩) (by rw[g1];intro e;cases e;exact h1 rfl) _
 have ctab:∀ v t f,Zc9 o3 wz v t f->Zc9 o3 (wz.setCell ⟨sb,2,none⟩ (.slice (some ⟨g,0,none⟩) (j+1) cap)) v t f:=fun v t f hT =>
  hT.keep (fun q r hq g2=>Zaf (ne hq (by rintro rfl;rcases g2 with e|e<;>cases e)) _) (fun _ _ h=>h)
 refine⟨g1,g3,Zac ((g0.same h.lt h.own (by simp)).trans h.blk) _,(Zaf (ne g3 (by simp)) _).trans ((g0.same h.lt h.ownl (by simp)).trans h.lev),row h.vars (by simp) (by simp),row h.level (by simp) (by simp),?_,?_,by simp[h.tl],fun v hv=>?_,?_,hl2.mono (by simp[World.setCell]),h.ge⟩
 . have hp:=h.pool.chg g0 h.lt (by simp) (by simp) (by simp) (by simp);exact hp.keep (fun q r hq g2=>Zaf (ne hq (by rintro rfl;rcases g2 with e|e|e|e<;>cases e)) _) (fun _ _ h=>h)
 . have:=hr.setCell_other (p:=⟨sb,2,none⟩) (by rw[g1];simp) (.slice (some ⟨g,0,none⟩) (j+1) cap);simpa using this
 ·dsimp only;refine ctab _ _ _ ?_
  by_cases e:v=j
  ·subst e;have e2:(s.ts++[t]).getD v 0=t:=by simp[List.getD,h.tl]
   rw[e2];exact ht.chg hc2 hl (by simp) (by simp)
  ·have e2:(s.ts++[t]).getD v 0=s.ts.getD v 0:=by
    have:=h.tl;simp[List.getD,List.getElem?_append_left (show v<s.ts.length by omega)]
   rw[e2];exact(h.tab v (by omega)).chg g0 h.lt (by simp[e]) (by simp[e])
 . exact(h.chg.trans (g0.mono fun r e=>by rcases e with rfl|rfl|rfl<;>simp[Zap])).setCell (p:=⟨sb,2,none⟩) g1 (by simp[Zap]) _
theorem Zt9:(prog.info? 173).map (fun i=>(i.zero,i.size,i.bytes))=some (some (.pointer none),1,8):=by kernel_rfl
theorem Zxs (o:Own)(n room:Nat)(w:World)(hlt:Zah o w)(hn:n<=64)(h1:1<=room)(h2:room<=1048576) :
 Calls prog 91 #[.int .i64 n,.int .i64 room] w fun x w'=>∃ sb o',x=.returned (.tuple #[.pointer (some ⟨sb,0,none⟩),.int .i64 0])/\Zar o' w' sb (store0 n room)/\Chg Zap o o' w w'/\Zah o' w'/\w.heap.size<=sb:=by
 have gM:(n:Int)<=64:=by omega
 have gL:(0:Int)<=n:=by omega
 have HP:=Hd (Zz6 o room w hlt h1 h2);clear hlt h1 h2
 go_enter func91,ntmps91
 go_wp2_with fail;refine HP.out.mono ?_;rintro x w1 ⟨pb,o1,rfl,gq,gw,gi,gK⟩;have gD:=Hd (Zph o1 n hn .vars w1 gi);have gB:=Hd gi;have gA:=Hd gq;have go:=Hd gw;clear gq gw gi;go_wp2_with fail;refine gD.out.mono ?_;rintro x w2 ⟨vv,o2,rfl,gc,gv,gh⟩;have gC:=Hd (Zph o2 n hn .level w2 gh);have gm:=Hd gc;have gd:=Hd gv;have gn:=Hd gh;clear gc gv gh;go_wp2_with fail;refine gC.out.mono ?_;rintro x w3 ⟨vl,o3,rfl,g4,gu,gt⟩;obtain⟨av,cv,rfl,_⟩:=gm.out.slice;obtain⟨al,cl,rfl,_⟩:=g4.slice;have gz:=Hd g4;have g6:=Hd gu;have g3:=Hd gt;clear g4 gu gt;go_upto_region 7 with fail;obtain⟨wl,g1⟩:∃ wl,wl=w3.alloc (.cells #[.slice av n cv,.slice al n cl] 152):=⟨_,rfl⟩;obtain⟨ws,g0⟩:∃ ws,ws=wl.alloc (.cells #[.pointer (some ⟨w3.heap.size,0,none⟩),.pointer (some ⟨pb,0,none⟩),.slice none 0 0,.slice none 0 0,.int .i64 0] 150):=⟨_,rfl⟩;have gf:wl.heap.size=w3.heap.size+1:=by rw[g1];simp
 have gx:NewS o w n room (w3.heap.size+1) ⟨w3.heap.size,pb,.slice av n cv,.slice al n cl,.slice none 0 0,.slice none 0 0,[]⟩ 0 (Zcl (Zcl o3 w3.heap.size .levels) (w3.heap.size+1) .store) ws:=by
  have c1:=(Chg.refl Zap o3 w3).allocR (r:=.levels) g3.out (.cells #[.slice av n cv,.slice al n cl] 152) (by simp[Zap]);have l1:=g3.out.allocR (.cells #[.slice av n cv,.slice al n cl] 152) .levels;rw[<- g1] at c1 l1;have c2:=c1.allocR (r:=.store) l1 (.cells #[.pointer (some ⟨w3.heap.size,0,none⟩),.pointer (some ⟨pb,0,none⟩),.slice none 0 0,.slice none 0 0,.int .i64 0] 150) (by simp[Zap]);have l2:=l1.allocR (.cells #[.pointer (some ⟨w3.heap.size,0,none⟩),.pointer (some ⟨pb,0,none⟩),.slice none 0 0,.slice none 0 0,.int .i64 0] 150) .store;rw[<- g0,gf] at c2 l2;have hb:Below w3.heap.size w3 ws:=by rw[g0,g1];exact(Zae w3 _).alloc (by simp) _
  have gc:=((gm.out.chg g6.out gn.out (by simp)).below g3.out hb).keep (o':=Zcl (Zcl o3 w3.heap.size .levels) (w3.heap.size+1) .store) (fun _ _=>rfl) (fun g hg=>c2.ext g _ hg);have g4:=(gz.out.below g3.out hb).keep (o':=Zcl (Zcl o3 w3.heap.size .levels) (w3.heap.size+1) .store) (fun _ _=>rfl) (fun g hg=>c2.ext g _ hg);have gF:=(go.out.mono (R':=Zap) (fun r hr=>by rcases hr with rfl|rfl|rfl<;>simp[Zap,Ze1])).trans ((gd.out.mono (R':=Zap) (fun r hr=>by subst hr;simp[Zap])).trans ((g6.out.mono (R':=Zap) (fun r hr=>by subst hr;simp[Zap])).trans c2));have gE:=(gA.out.chg (gd.out) gB.out (by simp) (by simp) (by simp) (by simp)).chg g6.out gn.out (by simp) (by simp) (by simp) (by simp);have hp:=(gE.below hb g3.out).keep (o':=Zcl (Zcl o3 w3.heap.size .levels) (w3.heap.size+1) .store) (fun _ _ _ _=>rfl) (fun g r hg=>c2.ext g r hg);refine⟨Za8 _ _ _,Zc3 l1 (by omega) (Za8 _ _ _),?_,?_,gc,g4,hp,RowR.nil _ _ _ _ _,rfl,fun v hv=>absurd hv (by omega),gF,l2,?_⟩
  . rw[g0,<- gf];exact heap_alloc_new wl _
  . rw[g0];exact(Go.heap_alloc_old wl _ (show w3.heap.size<wl.heap.size by omega)).trans (by rw[g1];exact heap_alloc_new w3 _)
  ·show w.heap.size<=w3.heap.size+1
   exact Nat.le_succ_of_le (Nat.le_trans go.out.size (Nat.le_trans gd.out.size g6.out.size))
 rw[<- g1,<- g0];have gy:=Hd gx;clear gx g0 g1 gf gm gz go gd g6 gB gn g3 gA gD gC HP;go_wp2_with fail
 go_loopw [31] (fun i wr=>∃ (j:Nat) (s:Za5) (o1:Own),j<=n/\i=.int .i64 j/\NewS o w n room (w3.heap.size+1) s j o1 wr) (fun i _=>n-(intOf i).toNat)
 case atStart=>exact⟨0,_,_,by omega,rfl,gy.out⟩
 case round =>
  obtain⟨j,s,o1,hj,rfl,hS⟩:=hrel;clear gy
  by_cases hlt:j<n
  ·obtain⟨c0,c1,c2,c3,c4,f0⟩:=cells5 hS.blk;obtain⟨av,cv,g9,_⟩:=hS.tabs.slice;rw[g9] at c2;have gI:(j:Int)<n:=by omega
   have HJ:(j:Int)+1<=64:=by omega
   have HS:=Hd hS;have gG:Hid (RowR o1 wr .tabs 173 1 (.slice av j cv) j (s.ts.map ptrV)):=by show RowR _ _ _ _ _ _ _ _;rw[<- g9];exact hS.tabs
   have gH:=Hd (Zz7 o1 j wr.drew hS.lt);have gJ:j<=64:=by omega
   have gk:=Hd g9;clear g9 hS;go_upto_region 9 with fail;refine Zan (fun W:World=>W.cell? ⟨w3.heap.size+1,2,none⟩=some (.slice av j cv)/\W.frozen? ⟨w3.heap.size+1,2,none⟩=false) true 10
    [(0,false),(1,false),(2,false),(3,false),(4,false),(5,true),(6,true),(7,true),(8,false),(9,false),(10,true)] (by kernel_rfl) (by kernel_rfl) ⟨c2,f0 2⟩ ?_
   simp only[planned,Zdd]
   iterate 5
    refine Zaj rfl ?_;apply Exists.intro;refine⟨fun w' hw=>?_,?_⟩
    . obtain⟨h1,h2⟩:=hw;go_simp;rfl
    simp only[Zai]
   refine Zbw (R:=fun v w'=>∃ t o2,v=.pointer (some ⟨t,0,none⟩)/\Zc9 o2 w' j t (fun _=>none)/\Chg (fun r=>r=.tab j\/r=.tmap j) o1 o2 wr w'/\Zah o2 w') rfl (by go_simp) (gH.out.mono (fun e w' he=>?_)) ?_
   . obtain⟨t,o2,rfl,a1,a2,a3,a4⟩:=he;obtain⟨_,_,q2,_,_,q0⟩:=cells5 ((a2.same (by exact HS.out.lt) HS.out.own (by simp)).trans HS.out.blk);exact⟨_,rfl,⟨by rw[<- gk.out];exact q2,q0 2⟩,t,o2,rfl,a1,⟨a2.os,a2.tape,a2.output,a2.size,a2.block,a2.ext,a2.new⟩,a3⟩
   rintro v wy-⟨t,o2,rfl,ht,g2,g5⟩;simp only[Zai];have ga:=(g2.same HS.out.lt HS.out.own (by simp)).trans HS.out.blk;have gg:w3.heap.size+1<wy.heap.size:=(Array.getElem?_eq_some_iff.1 ga).1;have gP:=Hd g2;have gN:=Hd ht;have gO:=Hd g5;have gl:=gG.out.chg g2 HS.out.lt (by simp);obtain⟨wb,g8⟩:∃ wb,wb=wy.alloc (.cells #[.pointer (some ⟨t,0,none⟩)] 173):=⟨_,rfl⟩;obtain⟨_,_,p2,_,_,p0⟩:=cells5 (show wb.heap[w3.heap.size+1]?=_ from by rw[g8];exact(Go.heap_alloc_old _ _ gg).trans ga);refine Zic (v:=.slice (some ⟨wy.heap.size,0,none⟩) 1 1) (w':=wb) rfl (by rw[g8];go_simp) ⟨by rw[<- gk.out];exact p2,p0 2⟩ ?_;simp only[Zai];obtain⟨g,cap,wz,o3,g7,gp,gj,gr⟩:=Zi6 148 173 148 1 8 (.pointer none) underlying148 Zt9 rfl (by decide) #[.pointer (some ⟨t,0,none⟩)] rfl (fun u hu=>by simp at hu;subst hu;rfl) gl g5 (by omega) (by decide);rw[<- g8] at g7;obtain⟨_,_,r2,_,_,r0⟩:=cells5 ((gj.same g5 (g2.ext _ _ HS.out.own) (by simp)).trans ga);refine Zic (v:=.slice (some ⟨g,0,none⟩) (j+1) cap) (w':=wz) rfl (Zko rfl rfl rfl g7) ⟨by rw[<- gk.out];exact r2,r0 2⟩ ?_;simp only[Zai];have HG:=Hd (HS.out.grown ht g2 g5 gp gj gr);clear ga gg g2 ht g5 gl g8 p2 p0 g7 gp gj gr
   iterate 2
    refine Zaj rfl ?_;apply Exists.intro;refine⟨fun w' hw=>?_,?_⟩
    . obtain⟨h1,h2⟩:=hw;go_simp;rfl
    simp only[Zai]
   refine Zew rfl (fun K hK=>?_);unfold Oper.wp;go_simp;refine hK _ _ (Zb8 ?_);go_wp2_with fail;go_roundw
   case rel=>exact⟨j+1,_,_,by omega,by simp,HG.out⟩
   case measure=>simp[intOf];omega
  ·obtain rfl:j=n:=by omega
   have HS:=Hd hS;clear hS;go_wp2_with fail
   go_ret2
   exact⟨_,_,rfl,HS.out.done,HS.out.chg,HS.out.lt,HS.out.ge⟩
end Go.Proofs.YtkidaindpahefaaGreat
