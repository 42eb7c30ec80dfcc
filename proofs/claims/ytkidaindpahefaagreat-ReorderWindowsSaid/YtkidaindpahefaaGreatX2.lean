/- Several texts in one file: contracts of the program's functions and what follows from them. -/
import Derived.Test.YtkidaindpahefaaGreatX1
import Derived.Laws.MakeOwn
import Derived.Laws.IdiomCopy
import Derived.Deep.Cut
import Derived.Deep.CutRange
import Derived.Deep.DeepCutAuto
set_option linter.unusedSimpArgs false
set_option linter.unusedVariables false
set_option linter.unusedSectionVars false
set_option linter.unnecessarySimpa false
set_option maxRecDepth 100000
set_option maxHeartbeats 8000000
namespace Go.Proofs.YtkidaindpahefaaGreat
open Go.Proofs.Tryz
open Go.RowKit
variable {L:Array Bool}{N:Nat->Option BN}{P:Program}{Q:Exit->Act->Wd->Prop}{R:Role->Prop}{S:Wd->Prop}{T t:TypeId}{V V':Nat->BF}{W w w' w0 wx:Wd}{a:Act}{args:Array Value}{asked found:Int}{b cap e f g ge hi i id j k k' lo lv mb n pb room sb x:Nat}{l rest:List Oper}{last:Bool}{o' o1 o2:Own}{ops:Array Oper}{rk:Nat->Nat}{v:Value}{zs:List Int}
theorem O7 (d:Nat)(w:Wd)(a b c a' b' c':Nat):(Op.equalIn (d+2) 281 (.agg #[Iv a,Iv b,Iv c]) (.agg #[Iv a',Iv b',Iv c'])).run prog w=.ok (decide (a=a'/\b=b'/\c=c')) w:=by
 have hq:=fun(x y:Int)=>run_equalIn_int (P:=prog) w d 101 .i64 .i64 x y underlying101
 have s:=GM;cases hi:prog.info? 101 with
 | none=>rw[hi] at s;cases s
 | some i =>
   have hs:=run_sizeOf w hi;rw[show prog.cellsOf 101=1 by kernel_rfl] at hs;have p0:=fun a b c:Nat=>Dk w underlying101 #[Iv a,Iv b,Iv c] 0 _ rfl
   have p1:=fun a b c:Nat=>Dk w underlying101 #[Iv a,Iv b,Iv c] 1 _ rfl
   have p2:=fun a b c:Nat=>Dk w underlying101 #[Iv a,Iv b,Iv c] 2 _ rfl
   unfold Op.equalIn;simp only[WB,We underlying281,VZ,hs];simp[List.range',p0,p1,p2,hq];have e1:((a:Int)=a')↔a=a':=by omega
   have e2:((b:Int)=b')↔b=b':=by omega
   have e3:((c:Int)=c')↔c=c':=by omega
   by_cases h1:a=a'<;>by_cases h2:b=b'<;>by_cases h3:c=c'<;>simp[e1,e2,e3,h1,h2,h3]
theorem O8 (w:Wd)(op op':Int)(a b c a' b' c':Nat):(Op.equal 283 (keyV op a b c) (keyV op' a' b' c')).run prog w=.ok (decide (op=op'/\a=a'/\b=b'/\c=c')) w:=by
 have hq:=fun(x y:Int)=>run_equalIn_int (P:=prog) w 9998 3 .i64 .i64 x y underlying3
 have h:=run_equalIn_struct (P:=prog) w 9999 283 #[Iv op,Iv a,Iv b,Iv c] #[Iv op',Iv a',Iv b',Iv c'] (by simp[Program.fieldsOf,underlying283]) (by kernel_rfl);have h3:=O7 9997 w a b c a' b' c';have hd:Op.maxDepth=9999+1:=rfl;have g0:∀ op a b c:Value,(part 281 #[op,a,b,c] 1).run prog w=.ok (.agg #[a,b,c]) w:=by
  intro op a b c;cases hi:prog.info? 281 with
  | none => have s : (prog.info? 281).map (fun i => i.size) = some 3 := by kernel_rfl
            rw[hi] at s;cases s
  | some i =>
    have hs:=run_sizeOf w hi;rw[show prog.cellsOf 281=3 by kernel_rfl] at hs;simp[part,isAgg,We underlying281]
 have g1:∀ op a b c:Value,(part 3 #[op,a,b,c] 0).run prog w=.ok op w:=fun op a b c=>Dk w underlying3 _ 0 _ rfl
 unfold Op.equal keyV;rw[hd,h];simp only[Program.fieldsOf,underlying283];simp[Op.eqFields,g0,g1,hq,h3]
 by_cases h1:op=op'<;>by_cases h2:a=a'<;>by_cases h3:b=b'<;>by_cases h4:c=c'<;>simp[h1,h2,h3,h4]
theorem O9 (w:Wd)(op op':Int)(a b c a' b' c':Nat):(binOp .neq 283 (.agg #[Iv op,Iv a,Iv b,Iv c]) (.agg #[Iv op',Iv a',Iv b',Iv c'])).run prog w=.ok (.bool (!decide (op=op'/\a=a'/\b=b'/\c=c'))) w:=by
 have h:=O8 w op op' a b c a' b' c';unfold keyV at h;simp only[binOp];simp[h]
structure EntD where
 op:Int
 a:Nat
 b:Nat
 c:Nat
 r:Nat
 full:Bool
def entV (e:EntD):List Value:=[Iv e.op,Iv e.a,Iv e.b,Iv e.c,Iv e.r,.bool e.full]
theorem C6 (e:EntD):(entV e).length=6:=rfl
def ent0:EntD:=⟨0,0,0,0,0,false⟩
def Bm (l:List EntD)(i:Nat):EntD:=l.getD i ent0
abbrev Phi:=Int->Nat->Nat->Nat->Nat->Prop
def EB (F:Phi)(l:List EntD):Prop:=∀ i,(Bm l i).full=true->F (Bm l i).op (Bm l i).a (Bm l i).b (Bm l i).c (Bm l i).r
structure Bb (o:Own)(w:Wd)(mb:Nat)(F:Phi):Prop where
 own:o mb=some .memo
 ex:∃ ve asked found,w.heap[mb]?=some (.cells #[Iv 4096,ve,Iv asked,Iv found] 177 (0,0)) /\
  (ve=.slice none 0 0\/∃ ge cap l,ve=.slice (some (Av ge)) 4096 cap/\l.length=4096/\RowR o w .entries 287 6 ve 4096 (l.flatMap entV)/\EB F l)
theorem Bb.keep {o o':Own}{w w':Wd}{mb:Nat}{F:Phi}(h:Bb o w mb F)(hk:∀ g r,o g=some r->(r=.memo\/r=.entries)->w'.heap[g]?=w.heap[g]?)(ho:∀ g r,o g=some r->o' g=some r):Bb o' w' mb F:=by
 obtain⟨ve,a,f,h1,h2⟩:=h.ex;refine⟨ho _ _ h.own,ve,a,f,(hk _ _ h.own (.inl rfl)).trans h1,h2.imp id ?_⟩;rintro⟨ge,cap,l,e1,e2,e3,e4⟩;exact⟨ge,cap,l,e1,e2,e3.keep (fun g hg=>hk g _ hg (.inr rfl)) (fun g hg=>ho g _ hg),e4⟩
theorem Bb.chg {o:Own}{F:Phi}(h:Bb o w mb F)(hc:Chg R o o' w w')(hlt:Ac o w)(h1:¬ R .memo)(h2:¬ R .entries):Bb o' w' mb F :=
 h.keep (fun g r hg hr=>hc.same hlt hg (by rcases hr with rfl|rfl<;>assumption)) hc.ext
theorem cells4 {a b c d:Value}(h:w.heap[g]?=some (.cells #[a,b,c,d] T (0,0))):w.cell? (Av g)=some a/\w.cell? (Aw g 1)=some b/\w.cell? (Aw g 2)=some c/\w.cell? (Aw g 3)=some d/\(∀ k,w.frozen? (Aw g k)=false) :=
 ⟨by rw[Vt w g 0 _ _ _ h];rfl,by rw[Vt w g 1 _ _ _ h];rfl,by rw[Vt w g 2 _ _ _ h];rfl,by rw[Vt w g 3 _ _ _ h];rfl,fun k=>by simp[World.frozen?,h]⟩
theorem GP {o:Own}{m:Nat}{l:List EntD}(h:RowR o w .entries 287 6 (.slice (some (Av g)) m cap) 4096 (l.flatMap entV))(hl:l.length=4096)(hk:k<4096) :
 w.cell? (Aw g (k*6))=some (Iv (Bm l k).op)/\w.cell? (Aw g (k*6+1))=some (Iv (Bm l k).a)/\w.cell? (Aw g (k*6+2))=some (Iv (Bm l k).b)/\w.cell? (Aw g (k*6+3))=some (Iv (Bm l k).c) /\
 w.cell? (Aw g (k*6+4))=some (Iv (Bm l k).r)/\w.cell? (Aw g (k*6+5))=some (.bool (Bm l k).full):=by
 have hx:l[k]?=some (Bm l k):=by simp[Bm,List.getD,hl,hk]
 have g0:(l.flatMap entV).length=4096*6:=by rw[BV entV 6 C6,hl]
 have e:=fun j (hj:j<6)=>(h.cell (k*6+j) (by rw[g0];omega)).trans (D0 entV 6 C6 l k j _ hx hj)
 exact⟨e 0 (by omega),e 1 (by omega),e 2 (by omega),e 3 (by omega),e 4 (by omega),e 5 (by omega)⟩
def OA (F:Phi)(op:Int)(a b c:Nat)(x:Ending):Prop:=x=.returned (.tuple #[Iv 0,.bool false])\/∃ r:Nat,x=.returned (.tuple #[Iv r,.bool true])/\F op a b c r
abbrev WV:=@decide_eq_true
abbrev WJ:=@decide_eq_false
theorem OB (o:Own)(mb:Nat)(F:Phi)(op:Int)(a b c:Nat)(w:Wd)(h:Bb o w mb F)(hlt:Ac o w) :
 Cl 202 #[Pt mb,Iv op,Iv a,Iv b,Iv c] w fun x w'=>OA F op a b c x/\Bb o w' mb F/\Chg (· = .memo) o o w w'/\Ac o w':=by
 obtain⟨ve,asked,found,gd,hv⟩:=h.ex;obtain⟨c0,c1,c2,c3,f0⟩:=cells4 gd;obtain⟨W,hW⟩:=Ex (w.setCell (Aw mb 2) (Iv (wrap64 (asked+1))));have g2:W.heap[mb]?=some (.cells #[Iv 4096,ve,Iv (wrap64 (asked+1)),Iv found] 177 (0,0)):=by rw[hW];exact A2 gd _
 have g9:Chg (· = .memo) o o w W:=by rw[hW];exact Chg.setCell (R:=(· = .memo)) (Chg.refl _ o w) (p:=Aw mb 2) h.own rfl _
 have gf:Ac o W:=hlt.mono g9.size;rcases hv with rfl|⟨ge,cap,l,rfl,hl,gi,gl⟩
 ·have g6:Bb o W mb F:=⟨h.own,_,_,_,g2,.inl rfl⟩;have HF:=Hd g6;have HC:=Hd g9;have HL:=Hd gf;have HW:=Hd hW;obtain⟨d0,d1,d2,d3,g0⟩:=cells4 g2;rw[hW] at d0 d1 d2 d3 g0;clear h hlt gd g2 g9 gf g6 hW
  go_enter func202,ntmps202
  go_wp2_with fail
  go_ret2
  rw[<- HW.o];exact⟨.inl rfl,HF.o,HC.o,HL.o⟩
 ·have gj:RowR o W .entries 287 6 (.slice (some (Av ge)) 4096 cap) 4096 (l.flatMap entV):=gi.chg g9 hlt (by simp);have g6:Bb o W mb F:=⟨h.own,_,_,_,g2,.inr ⟨ge,cap,l,rfl,hl,gj,gl⟩⟩;obtain⟨d0,d1,d2,d3,g0⟩:=cells4 g2;have hB:=(Ah W (.cells #[Iv op,Iv a,Iv b,Iv c] 283));have e1:=Cq hB d1;have gp:=Hd (Kc mb ge cap op a b c _ e1);have hz:W.heap.size=w.heap.size:=by rw[hW];simp[World.setCell]
  obtain⟨bx,gn⟩:=Ex w.heap.size;obtain⟨WK,gh⟩:=Ex (W.alloc (.cells #[Iv op,Iv a,Iv b,Iv c] 283));have gw:WK.heap[bx]?=some (.cells #[Iv op,Iv a,Iv b,Iv c] 283 (0,0)):=by rw[gh,gn,<- hz];exact Vv W _
  rw[<- gh] at gp hB;have gK:=Hd g6;have gI:=Hd g9;have gr:=Hd gf;have gE:=Hd gj;have HL:=Hd hl;have gq:=Hd gl;have HB:=Hd hB;have gy:=Hd gw;have gG:=Hd g2;have g8:=Hd h.own;have HW:=Hd hW;have gD:=Hd gh;have HZ:=Hd hz;have gJ:=Hd gn;rw[hW] at d0 d1 d2 d3 g0;have lmb:mb<w.heap.size:=Af c0;clear h hlt gd g2 g9 gf g6 hW gj gl hl gi hB gw gh gn hz e1
  go_enter func202,ntmps202
  go_wp2_with fail;rw[<- HW.o,<- gD.o,<- gJ.o];refine gp.o.mono ?_;rintro x w2 ⟨i,hi,rfl,go⟩;have g7:Bw W w2:=HB.o.trans (go.mono HB.o.size);have g3:=gE.o.below gr.o g7;have ga:=(g7.block mb (gr.o _ _ g8.o)).trans gG.o;have gm:=(go.block bx (Vr.1 gy.o).1).trans gy.o;have gx:Chg (· = .memo) o o w w2:=gI.o.trans (Chg.of_below g7 _ _);have gv:Ac o w2:=gr.o.mono g7.size;obtain⟨E,hE⟩:∃ E,Bm (l:=l) i=E:=⟨_,rfl⟩;obtain⟨n0,n1,n2,n3,n4,n5⟩:=GP g3 HL.o hi;rw[hE] at n0 n1 n2 n3 n4 n5;obtain⟨k0,k1,k2,k3,fk⟩:=cells4 gm;clear d0 d1 d2 d3 g0 c0 c1 c2 c3 f0 lmb;obtain⟨d0,d1,d2,d3,g0⟩:=cells4 ga;have gg:Bb o w2 mb F:=⟨g8.o,_,_,_,ga,.inr ⟨ge,cap,l,rfl,HL.o,g3,gq.o⟩⟩;have gz:=Hd gg;have gu:=Hd gx;have gt:=Hd gv;have gB:=Hd ga;have gF:=Hd g3;have gA:=Hd hE;clear gg gx gv go g7 g3 ga gm hE gp;have g4:=O9
  by_cases g1:E.full=true
  ·rw[g1] at n5;have gH:=Hd g1
   by_cases g5:E.op=op/\E.a=a/\E.b=b/\E.c=c
   ·have hd:decide (E.op=op/\E.a=a/\E.b=b/\E.c=c)=true:=WV g5;have gC:∀ w,(binOp .neq 283 (.agg #[Iv E.op,Iv E.a,Iv E.b,Iv E.c]) (.agg #[Iv op,Iv a,Iv b,Iv c])).run prog w=.ok (.bool false) w:=fun w=>by rw[g4,hd];rfl
    have HK:=Hd g5;clear g4 hd g5 g1;go_wp2_with fail
    go_quiet (fail)
    go_wp2_with fail
    go_ret2
    have gk:=gq.o i (by rw[gA.o];exact gH.o);rw[gA.o,HK.o.1,HK.o.2.1,HK.o.2.2.1,HK.o.2.2.2] at gk;refine⟨.inr ⟨E.r,rfl,gk⟩,⟨g8.o,_,_,_,A2 (w:=w2.drewN nq) gB.o _,.inr ⟨ge,cap,l,rfl,HL.o,?_,gq.o⟩⟩,Chg.setCell (R:=(· = .memo)) (gu.o.drewN nq) (p:=Aw mb 3) g8.o rfl _,gt.o.mono (by simp[World.setCell])⟩;exact(gF.o.keep (w':=w2.drewN nq) (fun _ _=>rfl) (fun _ h=>h)).setCell_other (p:=Aw mb 3) (by rw[g8.o];simp) _
   ·have hd:decide (E.op=op/\E.a=a/\E.b=b/\E.c=c)=false:=WJ g5;have gC:∀ w,(binOp .neq 283 (.agg #[Iv E.op,Iv E.a,Iv E.b,Iv E.c]) (.agg #[Iv op,Iv a,Iv b,Iv c])).run prog w=.ok (.bool true) w:=fun w=>by rw[g4,hd];rfl
    clear g4 hd g5 g1;go_wp2_with fail
    go_quiet (fail)
    go_wp2_with fail
    go_ret2
    exact⟨.inl rfl,gz.o.keep (fun _ _ _ _=>rfl) (fun _ _ h=>h),gu.o.drewN _,gt.o⟩
  ·have gc:E.full=false:=by simpa using g1
   rw[gc] at n5;clear g4 g1 gc;go_wp2_with fail
   go_quiet (fail)
   go_wp2_with fail
   go_ret2
   exact⟨.inl rfl,gz.o.keep (fun _ _ _ _=>rfl) (fun _ _ h=>h),gu.o.drewN _,gt.o⟩
abbrev WS:=@List.length_replicate
theorem OC {o:Oper}{wr:Wd}(hgd:o.guard=none)(l c:Operand)
 (ho:o.op=.makeSlice 22 l c) (base:Nat) (w0:Wd) (L:Int) (n:Nat) (hl:a.eval l=Iv L) (hc:a.eval c=Iv L) (hL:L=n) (hn:n<1099511627776)
 (hbase:base<=wr.heap.size) (hb:Below base w0 wr)
 (h:∀ g w',OwnI w' base (.slice (some (Av g)) n n) (List.replicate n 0)->Below base w0 w'->base<=w'.heap.size->CD none wr w'->base<=g ->
  wpList prog ops Q rest (a.put o.dst (.slice (some (Av g)) n n)) w') :
 wpList prog ops Q (o::rest) a wr:=by
 obtain⟨i,hi,hz,g0,g1⟩:=XC DK;refine wpList_make_full wr hgd l c 22 ho base 3 i (Iv 0) 1 underlying22 hi hz g0 .i64 .i64 L L n hl hc hL hL (by rw[g1];omega) (by unfold maxLen;omega) hbase ?_;intro w' h1 h2;refine h wr.heap.size w' ?_ (hb.grown h2 hbase (by simp)) (by have:=h2.size;omega) (Fh h2) hbase;unfold OwnI;have e1:Au (List.replicate n 0)=(madeCells (Value.int .i64 0).cells (n*1)).toList:=by
  simp[Au,madeCells,Value.cells];apply Xh
  . simp
  . intro j h3 h4;simp[Nat.mod_one]
 rw[WS,e1];exact h1
theorem OD (k n:Nat)(h:k<n):(iota k++List.replicate (n-k) 0).set k (k:Int)=iota (k+1)++List.replicate (n-(k+1)) 0:=by
 have e:n-k=(n-(k+1))+1:=by omega
 rw[e,List.replicate_succ,X8 _ _ (by simp[Fk]),Fk,Nat.sub_self,List.set_cons_zero,NW,VH];rfl
theorem OE (n:Int)(w:Wd) :
 Cl 140 #[Iv n] w fun e w'=>∃ v,e=.returned v/\OwnI w' w.heap.size v (E0 n)/\Bw w w':=by
 obtain⟨L,hL⟩:=Ex (min n.toNat 64:Nat);have g6:L<=64:=by omega
 have HF:Hq (E0 n=iota L):=by unfold E0;rw[hL];rfl
 have HL:=Hd hL;clear hL
 go_enter func140,ntmps140
 go_wp2_with (at_make;refine OC rfl _ _ rfl w.heap.size w _ L rfl rfl (by have:=HL.o;omega) (by omega) (Vu _) (VI _ _) ?_;intro g w1 g2 g5 hs1 g7 g4)
 all_goals
  go_loopw [11] (fun i wr=>∃ k:Nat,k<=L/\i=Iv k/\OwnI wr w.heap.size (.slice (some (Av g)) L L) (iota k++List.replicate (L-k) 0)/\Bw w wr) (fun i _=>L-(intOf i).toNat)
  case atStart=>exact⟨0,by omega,rfl,by simpa [iota] using g2,g5⟩
  case round =>
   obtain⟨k,hk,rfl,g0,g1⟩:=hrel
   by_cases g3:k<L
   ·have q0:=g0.cell k (by simp[Fk];omega);have p0:=g0.frozen k
    go_wp2
    go_roundw
    case rel=>exact⟨k+1,by omega,by go_num,by rw[<- OD k L g3];exact g0.stored k _,g1.setCell g4 _⟩
    case measure=>simp[intOf];omega
   ·obtain rfl:k=L:=by omega
    go_wp2
    go_ret;exact⟨_,rfl,by rw[HF.o];simpa using g0,g1⟩
theorem Ki:(prog.info? 287).map (fun i=>(i.zero,i.size,i.bytes))=some (some (.agg #[Iv 0,Iv 0,Iv 0,Iv 0,Iv 0,.bool false]),6,48):=by kernel_rfl
abbrev Yd:=@List.getElem?_replicate
theorem Kj (n:Nat):(madeCells #[Iv 0,Iv 0,Iv 0,Iv 0,Iv 0,.bool false] (n*6)).toList=(List.replicate n ent0).flatMap entV:=by
 apply List.ext_getElem?;intro i;simp only[madeCells,Array.toList_map,Array.toList_range,WP]
 by_cases hi:i<n*6
 ·have e:=D0 entV 6 C6 (List.replicate n ent0) (i/6) (i%6) ent0 (by rw[Yd,Vw (by omega)]) (by omega);rw[show i/6*6+i%6=i by omega] at e;rw[e,List.getElem?_range hi];have hm:i%6=0\/i%6=1\/i%6=2\/i%6=3\/i%6=4\/i%6=5:=by omega
  simp only[WI];rcases hm with h|h|h|h|h|h<;>simp[h,entV,ent0]
 ·have hl:((List.replicate n ent0).flatMap entV).length=n*6:=by rw[BV entV 6 C6];simp
  rw[VN (l:=(List.replicate n ent0).flatMap entV) (by omega),VN (by simp;omega)];rfl
theorem OF:(prog.info? 287).map (fun i=>i.size)=some 6:=by kernel_rfl
def set6 (w:Wd)(g k:Nat)(e:EntD):Wd :=
 (((((w.setCell (Aw g (k*6)) (Iv e.op)).setCell (Aw g (k*6+1)) (Iv e.a)).setCell (Aw g (k*6+2)) (Iv e.b)).setCell (Aw g (k*6+3)) (Iv e.c)).setCell (Aw g (k*6+4)) (Iv e.r)).setCell (Aw g (k*6+5)) (.bool e.full)
theorem Kk (f:∀ j,w.frozen? (Aw g j)=false){u0 u1 u2 u3 u4 u5:Value}(c0:w.cell? (Aw g (k*6))=some u0)(c1:w.cell? (Aw g (k*6+1))=some u1)(c2:w.cell? (Aw g (k*6+2))=some u2)(c3:w.cell? (Aw g (k*6+3))=some u3)(c4:w.cell? (Aw g (k*6+4))=some u4)(c5:w.cell? (Aw g (k*6+5))=some u5)(E:EntD) :
 (Instr.storeAt 287 (.pointer (some (Aw g (k*6)))) (.agg #[Iv E.op,Iv E.a,Iv E.b,Iv E.c,Iv E.r,.bool E.full])).run prog w=.ok () (set6 w g k E):=by
 have s:=OF;have g0:∀ j,((Aw g (k*6)):Addr).add j=(Aw g (k*6+j)):=fun j=>by unfold Addr.add;split<;>simp_all
 have g1:(Instr.sureAddr (Value.pointer (some (Aw g (k*6))))).run prog w=.ok (Aw g (k*6)) w:=rfl;cases hi:prog.info? 287 with
 | none=>rw[hi] at s;cases s
 | some i =>
   rw[hi] at s;simp only[WI,Wg] at s;have fz:∀ (w':Wd) p v j,(w'.setCell p v).frozen? (Aw g j)=w'.frozen? (Aw g j):=fun w' p v j=>Xn _ _ _ _
   obtain⟨v1,e1⟩:=AX (p:=(Aw g (k*6))) (v:=Iv E.op) c1;obtain⟨v2,e2⟩:=AX (p:=(Aw g (k*6))) (v:=Iv E.op) c2;obtain⟨v2,e2⟩:=AX (p:=(Aw g (k*6+1))) (v:=Iv E.a) e2;obtain⟨v3,e3⟩:=AX (p:=(Aw g (k*6))) (v:=Iv E.op) c3;obtain⟨v3,e3⟩:=AX (p:=(Aw g (k*6+1))) (v:=Iv E.a) e3;obtain⟨v3,e3⟩:=AX (p:=(Aw g (k*6+2))) (v:=Iv E.b) e3;obtain⟨v4,e4⟩:=AX (p:=(Aw g (k*6))) (v:=Iv E.op) c4;obtain⟨v4,e4⟩:=AX (p:=(Aw g (k*6+1))) (v:=Iv E.a) e4;obtain⟨v4,e4⟩:=AX (p:=(Aw g (k*6+2))) (v:=Iv E.b) e4;obtain⟨v4,e4⟩:=AX (p:=(Aw g (k*6+3))) (v:=Iv E.c) e4;obtain⟨v5,e5⟩:=AX (p:=(Aw g (k*6))) (v:=Iv E.op) c5;obtain⟨v5,e5⟩:=AX (p:=(Aw g (k*6+1))) (v:=Iv E.a) e5;obtain⟨v5,e5⟩:=AX (p:=(Aw g (k*6+2))) (v:=Iv E.b) e5;obtain⟨v5,e5⟩:=AX (p:=(Aw g (k*6+3))) (v:=Iv E.c) e5;obtain⟨v5,e5⟩:=AX (p:=(Aw g (k*6+4))) (v:=Iv E.r) e5;have s0:=Cn (P:=prog) (v:=Iv E.op) c0 (f _) rfl;have s1:=Cn (P:=prog) (v:=Iv E.a) e1 (by rw[fz];exact f _) rfl;have s2:=Cn (P:=prog) (v:=Iv E.b) e2 (by rw[fz,fz];exact f _) rfl;have s3:=Cn (P:=prog) (v:=Iv E.c) e3 (by rw[fz,fz,fz];exact f _) rfl;have s4:=Cn (P:=prog) (v:=Iv E.r) e4 (by rw[fz,fz,fz,fz];exact f _) rfl;have s5:=Cn (P:=prog) (v:=.bool E.full) e5 (by rw[fz,fz,fz,fz,fz];exact f _) rfl;simp only[Instr.storeAt,WB,g1,VZ];simp[storeVar,sizeOf,typeInfo,hi,s,Value.cells,storeCells,g0,s0,s1,s2,s3,s4,s5,set6]
theorem OG (xs:List Value)(k:Nat)(a b c d e f:Value)(h:k+6<=xs.length):(((((xs.set k a).set (k+1) b).set (k+2) c).set (k+3) d).set (k+4) e).set (k+5) f=xs.take k++[a,b,c,d,e,f]++xs.drop (k+6):=by
 apply List.ext_getElem?;intro i;simp only[VY,VQ]
 by_cases h0:i<k
 . rw[VS (by simp;omega),VS (by simp;omega),Ya,Vw h0];rw[Vs (by omega),Vs (by omega),Vs (by omega),Vs (by omega),Vs (by omega),Vs (by omega)]
 ·by_cases h1:i<k+6
  ·rw[VS (by simp;omega),Wk (by simp;omega)];have hl:(xs.take k).length=k:=by simp;omega
   rw[hl];have:i=k\/i=k+1\/i=k+2\/i=k+3\/i=k+4\/i=k+5:=by omega
   rcases this with rfl|rfl|rfl|rfl|rfl|rfl<;>(simp;omega)
  . rw[Vs (by omega),Vs (by omega),Vs (by omega),Vs (by omega),Vs (by omega),Vs (by omega)];rw[Wk (by simp;omega)];simp only[Vx,Wz,VO,WN,XK];congr 1;omega
theorem OH {o:Own}{m:Nat}{l:List EntD}(h:RowR o w .entries 287 6 (.slice (some (Av g)) m cap) l.length (l.flatMap entV))(hk:k<l.length)(E:EntD) :
 RowR o (set6 w g k E) .entries 287 6 (.slice (some (Av g)) m cap) l.length ((l.set k E).flatMap entV):=by
 have h6:=(((((h.stored (k*6) (Iv E.op)).stored (k*6+1) (Iv E.a)).stored (k*6+2) (Iv E.b)).stored (k*6+3) (Iv E.c)).stored (k*6+4) (Iv E.r)).stored (k*6+5) (.bool E.full);have hl:(l.flatMap entV).length=l.length*6:=BV entV 6 C6 _;rw[OG _ _ _ _ _ _ _ _ (by rw[hl];omega)] at h6;rw[GC entV 6 C6 l k E hk];exact h6
theorem OI {E:EntD}(hb:b≠g):(set6 w g k E).heap[b]?=w.heap[b]?:=by
 unfold set6;rw[Ay hb,Ay hb,Ay hb,Ay hb,Ay hb,Ay hb]
theorem Kl {o:Own}{E:EntD}(h:Chg R o o' w0 w)(hg:o' g=some .entries)(hR:R .entries):Chg R o o' w0 (set6 w g k E) :=
 (((((h.setCell (p:=(Aw g (k*6))) hg hR _).setCell (p:=(Aw g (k*6+1))) hg hR _).setCell (p:=(Aw g (k*6+2))) hg hR _).setCell (p:=(Aw g (k*6+3))) hg hR _).setCell (p:=(Aw g (k*6+4))) hg hR _).setCell (p:=(Aw g (k*6+5))) hg hR _
theorem OJ {F:Phi}{l:List EntD}(h:EB F l)(k:Nat){E:EntD}(hE:F E.op E.a E.b E.c E.r):EB F (l.set k E):=by
 intro i hi
 by_cases e:i=k/\k<l.length
 ·obtain⟨rfl,hk⟩:=e;have:Bm (l.set i E) i=E:=by simp[Bm,List.getD,hk]
  rw[this];exact hE
 ·have:Bm (l.set k E) i=Bm l i:=by
   simp only[Bm,List.getD,VY]
   by_cases e1:k=i
   ·rw[Vw e1];have:¬ k<l.length:=fun h'=>e ⟨e1.symm,h'⟩
    rw[Vs this];subst e1;rw[VN (by omega)]
   . rw[Vs e1]
  rw[this] at hi ⊢;exact h i hi
section
theorem BH {o:Oper}{r:List (Option Oper×Bool)}{f:FuncId}{R:Value->Wd->Prop}(hg:o.guard=none)
 (he:(execOp a.eval o).run P w=.ok (.enter f args) w) (hc:Calls P f args w fun e w'=>∃ v,e=.returned v/\S w'/\R v w')
 (h:∀ v w',S w'->R v w'->A0 P ops Q S last r (a.put o.dst v) w'):A0 P ops Q S last ((some o,true)::r) a w:=by
 have hw:Region.wanted o (yielded ops a.tmps)=true:=by simp[Region.wanted,hg]
 unfold A0;simp only[hw,Wy,Oper.wp,he,Oper.upon];exact hc.mono fun e w' ⟨v,h1,h2,h3⟩=>by subst h1;exact⟨.inr h2,h v w' h2 h3⟩
end
theorem OK (o:Own)(w:Wd)(hlt:Ac o w):RowR (AI o w.heap.size .entries) (w.alloc (.cells (madeCells #[Iv 0,Iv 0,Iv 0,Iv 0,Iv 0,.bool false] (4096*6)) 287)) .entries 287 6 (.slice (some (Av w.heap.size)) 4096 4096) 4096 ((List.replicate 4096 ent0).flatMap entV):=by
 refine⟨by rw[BV entV 6 C6,WS],.inr ⟨w.heap.size,4096,_,rfl,B0 _ _ _,Vv w _,Vu _,by decide,by rw[size_madeCells];exact Vu _,?_⟩⟩;rw[Kj,Wv];rw[BV entV 6 C6,WS];exact Vu _
theorem Km (F:Phi)(n:Nat):EB F (List.replicate n ent0):=by
 intro i hi;have:Bm (List.replicate n ent0) i=ent0:=by
  simp only[Bm,List.getD,Yd];split<;>rfl
 rw[this] at hi;cases hi
theorem Kn (w:Wd):(Instr.makeSlice 175 (Iv 4096) (Iv 4096)).run prog w=.ok (.slice (some (Av w.heap.size)) 4096 4096) (w.alloc (.cells (madeCells #[Iv 0,Iv 0,Iv 0,Iv 0,Iv 0,.bool false] (4096*6)) 287)):=by
 have s:=Ki;cases hi:prog.info? 287 with
 | none=>rw[hi] at s;cases s
 | some i =>
   rw[hi] at s;simp only[WI,Wg,Xg] at s;obtain⟨hz,hs,hb⟩:=s;have:=run_make (P:=prog) w 175 287 i _ underlying175 hi hz .i64 .i64 4096 4096 (by decide) (by decide) (by rw[hb];decide) (by decide);rw[hs] at this;exact this
structure C7 (o:Own)(w:Wd)(mb ge cap:Nat)(l:List EntD)(asked found:Int)(F:Phi):Prop where
 own:o mb=some .memo
 blk:w.heap[mb]?=some (.cells #[Iv 4096,.slice (some (Av ge)) 4096 cap,Iv asked,Iv found] 177 (0,0))
 len:l.length=4096
 row:RowR o w .entries 287 6 (.slice (some (Av ge)) 4096 cap) 4096 (l.flatMap entV)
 ok:EB F l
theorem C7.is {o:Own}{l:List EntD}{F:Phi}(h:C7 o w mb ge cap l asked found F):Bb o w mb F:=⟨h.own,_,_,_,h.blk,.inr ⟨ge,cap,l,rfl,h.len,h.row,h.ok⟩⟩
theorem OL {o:Own}{F:Phi}(hown:o mb=some .memo)(hlt:Ac o w)(hmb:w.heap[mb]?=some (.cells #[Iv 4096,.slice none 0 0,Iv asked,Iv found] 177 (0,0)))(W:Wd)
 (hW:W=(w.setCell (Aw mb 1) (.slice (some (Av w.heap.size)) 4096 4096)).alloc (.cells (madeCells #[Iv 0,Iv 0,Iv 0,Iv 0,Iv 0,.bool false] 24576) 287)) :
 ∃ o',C7 o' W mb w.heap.size 4096 (List.replicate 4096 ent0) asked found F/\Chg (fun r=>r=.memo\/r=.entries) o o' w W/\Ac o' W:=by
 have g3:mb<w.heap.size:=hlt _ _ hown;obtain⟨w1,h1⟩:=Ex (w.setCell (Aw mb 1) (.slice (some (Av w.heap.size)) 4096 4096));have hz:w1.heap.size=w.heap.size:=by rw[h1];simp[World.setCell]
 have g1:Chg (fun r=>r=.memo\/r=.entries) o o w w1:=by rw[h1];exact Chg.setCell (R:=fun r=>r=.memo\/r=.entries) (p:=Aw mb 1) (Chg.refl _ o w) hown (.inl rfl) _
 have g0:Ac o w1:=hlt.mono g1.size;have g2:w1.heap[mb]?=some (.cells #[Iv 4096,.slice (some (Av w.heap.size)) 4096 4096,Iv asked,Iv found] 177 (0,0)):=by rw[h1];exact A2 hmb _
 have hr:=OK o w1 g0;rw[<- h1] at hW;rw[hz] at hr;subst hW;refine⟨AI o w.heap.size .entries,⟨CE hlt (Vu _) hown,?_,WS,hr,Km F _⟩,?_,?_⟩
 . exact(VL w1 _ (by omega)).trans g2
 . rw[<- hz];exact g1.allocR g0 _ (.inr rfl)
 . rw[<- hz];exact g0.allocR _ _
theorem C7.below {o:Own}{w w':Wd}{mb ge cap:Nat}{l:List EntD}{asked found:Int}{F:Phi}(h:C7 o w mb ge cap l asked found F)(hlt:Ac o w)(hb:Bw w w'):C7 o w' mb ge cap l asked found F :=
 ⟨h.own,(hb.block mb (hlt _ _ h.own)).trans h.blk,h.len,h.row.below hlt hb,h.ok⟩
theorem Ko {o:Own}{l:List EntD}{F:Phi}(h:C7 o w mb ge cap l asked found F)(op:Int)(a b c:Nat) :
 Cl 250 #[Pt mb,.agg #[Iv op,Iv a,Iv b,Iv c]] w.drew fun x w'=>∃ i,i<4096/\x=.returned (.pointer (some (Aw ge (i*6))))/\Below w.drew.heap.size w.drew w' :=
 Kc mb ge cap op a b c w.drew (cells4 (w:=w.drew) h.blk).2.1
theorem C7.stored {o:Own}{l:List EntD}{F:Phi}(h:C7 o w mb ge cap l asked found F)(hk:k<4096){E:EntD}(hE:F E.op E.a E.b E.c E.r):C7 o (set6 w ge k E) mb ge cap (l.set k E) asked found F:=by
 have hg:=h.row.owner;have g0:mb≠ge:=fun e=>by subst e;have:=h.own;rw[hg] at this;cases this
 refine⟨h.own,(OI g0).trans h.blk,by rw[VQ];exact h.len,?_,OJ h.ok k hE⟩;have hr:=h.row;rw[show 4096=l.length from h.len.symm] at hr;have:=OH (m:=l.length) hr (by rw[h.len];exact hk) E;rw[h.len] at this;exact this
theorem Kp (w:Wd)(a:Option Addr)(n c:Nat):(binOp .eql 175 (.slice a n c) (.slice none 0 0)).run prog w=.ok (.bool a.isNone) w:=by
 have hd:Op.maxDepth=9999+1:=rfl;have h:(Op.equal 175 (.slice a n c) (.slice none 0 0)).run prog w=.ok a.isNone w:=by
  unfold Op.equal;rw[hd];unfold Op.equalIn;simp only[WB,We underlying175,VZ];cases a<;>simp
 simp only[binOp];simp[h]
abbrev Xi:=@bodyPost_end
abbrev WC:=@results_none
theorem OM (o:Own)(mb:Nat)(F:Phi)(op:Int)(a b c r:Nat)(w:Wd)(h:Bb o w mb F)(hlt:Ac o w)(hF:F op a b c r) :
 Cl 203 #[Pt mb,Iv op,Iv a,Iv b,Iv c,Iv r] w fun x w'=>x=.returned (.tuple #[])/\∃ o',Bb o' w' mb F/\Chg (fun r=>r=.memo\/r=.entries) o o' w w'/\Ac o' w':=by
 obtain⟨ve,asked,found,gv,hv⟩:=h.ex;obtain⟨c0,c1,c2,c3,f0⟩:=cells4 gv;have lmb:mb<w.heap.size:=Af c0;have gC:=Hd hlt;have gr:=Hd gv;have gc:=Hd h.own;have HV:=Hd hv;have HF:=Hd hF;have gB:=Hd Kn;clear h hlt gv hv hF;rcases HV.o with rfl|⟨ge,cap,l,rfl,hl,gt,gx⟩
 ·have gD:=Kn w;have gq:(binOp .eql 175 (.slice none 0 0) (.slice none 0 0)).run prog w=.ok (.bool true) w:=Kp w none 0 0;have HM:=Hd (OL (F:=F) gc.o gC.o gr.o)
  go_enter func203,ntmps203
  go_upto_region 3 with fail;obtain⟨W1,g5⟩:=Ex ((w.setCell (Aw mb 1) (.slice (some (Av w.heap.size)) 4096 4096)).alloc (.cells (madeCells #[Iv 0,Iv 0,Iv 0,Iv 0,Iv 0,.bool false] 24576) 287));rw[<- g5];obtain⟨o1,gy,gA,gz⟩:=HM.o W1 g5;have g6:=Hd gy;have ga:=Hd gA;have g7:=Hd gz;clear gy gA gz g5 HM gD gq c0 c1 c2 c3 f0 lmb HV gr gc gB;obtain⟨d0,d1,d2,d3,g0⟩:=cells4 g6.o.blk;have lmb1:mb<W1.heap.size:=Af d0;go_upto_region 4 with fail;obtain⟨bx,g9⟩:=Ex W1.heap.size;obtain⟨W2,g4⟩:=Ex (W1.alloc (.cells #[Iv op,Iv a,Iv b,Iv c] 283));have g3:Bw W1 W2:=by rw[g4];exact Ah _ _
  have g8:W2.heap[bx]?=some (.cells #[Iv op,Iv a,Iv b,Iv c] 283 (0,0)):=by rw[g4,g9];exact Vv W1 _
  rw[<- g4,<- g9];have gf:=g6.o.below g7.o g3;have gl:=ga.o.trans (Chg.of_below g3 (fun r=>r=.memo\/r=.entries) _);have gi:=g7.o.mono g3.size;have gn:=Hd gf;have gw:=Hd gl;have go:=Hd gi;have gp:=Hd g8;clear gf gl gi g3 g4 g9 g6 ga g7 d0 d1 d2 d3 g0 lmb1;obtain⟨k0,k1,k2,k3,fk⟩:=cells4 g8;clear g8;refine AJ (fun W:Wd=>W.cell? (Av bx)=some (Iv op)/\W.cell? (Aw bx 1)=some (Iv a)/\W.cell? (Aw bx 2)=some (Iv b)/\W.cell? (Aw bx 3)=some (Iv c)) true 7
   [(0,false),(1,false),(3,false),(4,false),(5,false),(2,true),(6,false),(7,true)] (by kernel_rfl) (by kernel_rfl) ⟨k0,k1,k2,k3⟩ ?_
  simp only[planned,AH]
  iterate 5
   refine Aq rfl ?_;apply Exists.intro;refine⟨fun w' hw=>?_,?_⟩
   . obtain⟨q0,q1,q2,q3⟩:=hw;go_simp;rfl
   simp only[Ab]
  refine BH (R:=fun v w'=>∃ i,i<4096/\v=.pointer (some (Aw w.heap.size (i*6)))/\Below W2.drew.heap.size W2.drew w') rfl (by go_simp) ((Ko gn.o op a b c).mono (fun e w' he=>?_)) ?_
  . obtain⟨i,hi,rfl,hb⟩:=he;obtain⟨j0,j1,j2,j3,_⟩:=cells4 ((hb.block bx (Vr.1 gp.o).1).trans gp.o);exact⟨_,rfl,⟨j0,j1,j2,j3⟩,i,hi,rfl,hb⟩
  rintro v w3-⟨i,hi,rfl,g2⟩;simp only[Ab];have g2:Bw W2 w3:=(Am W2 1).trans g2;have g1:=gn.o.below go.o g2;have gk:=gw.o.trans (Chg.of_below g2 (fun r=>r=.memo\/r=.entries) _);have gh:=go.o.mono g2.size;obtain⟨n0,n1,n2,n3,n4,n5⟩:=GP g1.row g1.len hi
  iterate 1
   refine Aq rfl ?_;apply Exists.intro;refine⟨fun w' hw=>?_,?_⟩
   . obtain⟨q0,q1,q2,q3⟩:=hw;go_simp;rfl
   simp only[Ab]
  refine EA rfl rfl (Kk (fun j=>by have:=g1.row.frozen j;exact this) n0 n1 n2 n3 n4 n5 ⟨op,a,b,c,r,true⟩) ?_;simp only[Ab];have gd:=(g1.stored hi (E:=⟨op,a,b,c,r,true⟩) HF.o).is;have gj:=Kl (k:=i) (E:=⟨op,a,b,c,r,true⟩) gk g1.row.owner (.inr rfl);have gg:Ac o1 (set6 w3 w.heap.size i ⟨op,a,b,c,r,true⟩):=gh.mono (by simp[set6,World.setCell]);obtain⟨WF,gm⟩:=Ex (set6 w3 w.heap.size i ⟨op,a,b,c,r,true⟩);rw[<- gm] at gd gj gg ⊢;clear n0 n1 n2 n3 n4 n5 g1 gk gh g2 k0 k1 k2 k3 fk gm;go_wp2_with fail;refine Xi (WC rfl _ _ _) rfl ?_;exact⟨rfl,o1,gd,gj,gg⟩
 ·have g6:Hq (C7 o w mb ge cap l asked found F):=(Hd ⟨gc.o,gr.o,hl,gt,gx⟩);have gq:(binOp .eql 175 (.slice (some (Av ge)) 4096 cap) (.slice none 0 0)).run prog w=.ok (.bool false) w:=Kp w _ _ _;clear hl gt gx
  go_enter func203,ntmps203
  go_upto_region 3 with fail;obtain⟨W1,g5⟩:=Ex w;have ga:Hq (Chg (fun r=>r=.memo\/r=.entries) o o w W1):=Hd (g5 ▸ Chg.refl _ _ _);have g7:Hq (Ac o W1):=Hd (g5 ▸ gC.o);rw[<- g5] at g6;rw[<- g5];obtain⟨o1,gu⟩:=Ex o;rw[<- gu] at g6 g7;have ga:Hq (Chg (fun r=>r=.memo\/r=.entries) o o1 w W1):=by rw[gu];exact ga
  clear g5 gu gq c0 c1 c2 c3 f0 lmb HV gr gc gB;obtain⟨d0,d1,d2,d3,g0⟩:=cells4 g6.o.blk;have lmb1:mb<W1.heap.size:=Af d0;go_upto_region 4 with fail;obtain⟨bx,g9⟩:=Ex W1.heap.size;obtain⟨W2,g4⟩:=Ex (W1.alloc (.cells #[Iv op,Iv a,Iv b,Iv c] 283));have g3:Bw W1 W2:=by rw[g4];exact Ah _ _
  have g8:W2.heap[bx]?=some (.cells #[Iv op,Iv a,Iv b,Iv c] 283 (0,0)):=by rw[g4,g9];exact Vv W1 _
  rw[<- g4,<- g9];have gf:=g6.o.below g7.o g3;have gl:=ga.o.trans (Chg.of_below g3 (fun r=>r=.memo\/r=.entries) _);have gi:=g7.o.mono g3.size;have gn:=Hd gf;have gw:=Hd gl;have go:=Hd gi;have gp:=Hd g8;clear gf gl gi g3 g4 g9 g6 ga g7 d0 d1 d2 d3 g0 lmb1;obtain⟨k0,k1,k2,k3,fk⟩:=cells4 g8;clear g8;refine AJ (fun W:Wd=>W.cell? (Av bx)=some (Iv op)/\W.cell? (Aw bx 1)=some (Iv a)/\W.cell? (Aw bx 2)=some (Iv b)/\W.cell? (Aw bx 3)=some (Iv c)) true 7
   [(0,false),(1,false),(3,false),(4,false),(5,false),(2,true),(6,false),(7,true)] (by kernel_rfl) (by kernel_rfl) ⟨k0,k1,k2,k3⟩ ?_
  simp only[planned,AH]
  iterate 5
   refine Aq rfl ?_;apply Exists.intro;refine⟨fun w' hw=>?_,?_⟩
   . obtain⟨q0,q1,q2,q3⟩:=hw;go_simp;rfl
   simp only[Ab]
  refine BH (R:=fun v w'=>∃ i,i<4096/\v=.pointer (some (Aw ge (i*6)))/\Below W2.drew.heap.size W2.drew w') rfl (by go_simp) ((Ko gn.o op a b c).mono (fun e w' he=>?_)) ?_
  . obtain⟨i,hi,rfl,hb⟩:=he;obtain⟨j0,j1,j2,j3,_⟩:=cells4 ((hb.block bx (Vr.1 gp.o).1).trans gp.o);exact⟨_,rfl,⟨j0,j1,j2,j3⟩,i,hi,rfl,hb⟩
  rintro v w3-⟨i,hi,rfl,g2⟩;simp only[Ab];have g2:Bw W2 w3:=(Am W2 1).trans g2;have g1:=gn.o.below go.o g2;have gk:=gw.o.trans (Chg.of_below g2 (fun r=>r=.memo\/r=.entries) _);have gh:=go.o.mono g2.size;obtain⟨n0,n1,n2,n3,n4,n5⟩:=GP g1.row g1.len hi
  iterate 1
   refine Aq rfl ?_;apply Exists.intro;refine⟨fun w' hw=>?_,?_⟩
   . obtain⟨q0,q1,q2,q3⟩:=hw;go_simp;rfl
   simp only[Ab]
  refine EA rfl rfl (Kk (fun j=>by have:=g1.row.frozen j;exact this) n0 n1 n2 n3 n4 n5 ⟨op,a,b,c,r,true⟩) ?_;simp only[Ab];have gd:=(g1.stored hi (E:=⟨op,a,b,c,r,true⟩) HF.o).is;have gj:=Kl (k:=i) (E:=⟨op,a,b,c,r,true⟩) gk g1.row.owner (.inr rfl);have gg:Ac o1 (set6 w3 ge i ⟨op,a,b,c,r,true⟩):=gh.mono (by simp[set6,World.setCell]);obtain⟨WF,gm⟩:=Ex (set6 w3 ge i ⟨op,a,b,c,r,true⟩);rw[<- gm] at gd gj gg ⊢;clear n0 n1 n2 n3 n4 n5 g1 gk gh g2 k0 k1 k2 k3 fk gm;go_wp2_with fail;refine Xi (WC rfl _ _ _) rfl ?_;exact⟨rfl,o1,gd,gj,gg⟩
theorem RowR.setCells {o:Own}{r:Role}{e:TypeId}{size n g m cap:Nat}(ys:List Value):∀ (w:Wd) (k:Nat) (xs:List Value),RowR o w r e size (.slice (some (Av g)) m cap) n xs->k+ys.length<=xs.length ->
 RowR o (w.setCells g k ys) r e size (.slice (some (Av g)) m cap) n (xs.take k++ys++xs.drop (k+ys.length)):=by
 induction ys with
 | nil=>intro w k xs h _;simpa [World.setCells] using h
 | cons y ys ih =>
   intro w k xs h hl;simp only[VO] at hl;have h1:=ih (w.setCell (Aw g k) y) (k+1) (xs.set k y) (h.stored k y) (by simp;omega);have e:(xs.set k y).take (k+1)++ys++(xs.set k y).drop (k+1+ys.length)=xs.take k++(y::ys)++xs.drop (k+(y::ys).length):=by
    have e1:(xs.set k y).take (k+1)=xs.take k++[y]:=by
     rw[List.set_eq_take_append_cons_drop,Vw (by omega),List.take_append];simp;have:min k xs.length=k:=by omega
     rw[this];simp
     exact Wv (by simp;omega)
    have e2:(xs.set k y).drop (k+1+ys.length)=xs.drop (k+1+ys.length):=by
     rw[List.drop_set];rw[Vw (by omega)]
    rw[e1,e2];simp[XD,Nat.add_comm 1 ys.length]
   rw[e] at h1;exact h1
theorem Chg.setCells {R:Role->Prop}{o o':Own}{w0:Wd}{g:Nat}{r:Role}(hg:o' g=some r)(hR:R r)(ys:List Value):∀ (w:Wd) (k:Nat),Chg R o o' w0 w->Chg R o o' w0 (w.setCells g k ys):=by
 induction ys with
 | nil=>intro w k h;exact h
 | cons y ys ih=>intro w k h;exact ih _ _ (h.setCell (p:=⟨g,k,none⟩) hg hR y)
theorem ON (hb:b≠g)(ys:List Value):∀ (w:Wd) (k:Nat),(w.setCells g k ys).heap[b]?=w.heap[b]?:=by
 induction ys with
 | nil=>intro w k;rfl
 | cons y ys ih=>intro w k;rw[World.setCells,ih];exact Ay (p:=⟨g,k,none⟩) hb y
theorem OO (w:Wd):(zeroValue 287).run prog w=.ok (.agg #[Iv 0,Iv 0,Iv 0,Iv 0,Iv 0,.bool false]) w:=by
 have s:=Ki;cases hi:prog.info? 287 with
 | none=>rw[hi] at s;cases s
 | some i =>
   rw[hi] at s;simp only[WI,Wg,Xg] at s;obtain⟨hz,hs,hb⟩:=s;simp[zeroValue,typeInfo,hi,hz]
theorem OP (n:Nat):(Builtin.zeroCells (Value.cells (.agg #[Iv 0,Iv 0,Iv 0,Iv 0,Iv 0,.bool false])) n).toList=(List.replicate n ent0).flatMap entV:=Kj n
theorem OQ (w:Wd)(ty:TypeId)(ge cap n:Nat)(hc:∀ j,j<(n+1)*6->(w.cell? (Aw ge j)).isSome=true)(hf:∀ j,w.frozen? (Aw ge j)=false) :
 (Builtin.clear_ #[175] ty #[.slice (some (Av ge)) (n+1) cap]).run prog w=.ok (.tuple #[]) (w.setCells ge 0 ((List.replicate (n+1) ent0).flatMap entV)):=by
 have g0:((List.replicate (n+1) ent0).flatMap entV).length=(n+1)*6:=by rw[BV entV 6 C6,WS]
 have g1:=run_storeCells_cells (P:=prog) ge 0 ((List.replicate (n+1) ent0).flatMap entV) 0 w (fun j hj=>by rw[g0] at hj;simpa using hc j hj) (fun j _=>hf _) (fun v hv=>by
  rw[XG] at hv;obtain⟨E,_,hv⟩:=hv;simp only[entV,Wj,Yk,or_false] at hv;rcases hv with rfl|rfl|rfl|rfl|rfl|rfl<;>rfl)
 unfold Builtin.clear_;simp only[List.getElem?_toArray,List.getElem?_cons_zero,WB,We underlying175,VZ,OO,OP,g1];rfl
theorem OR (w:Wd)(ty:TypeId)(ge cap:Nat)(hc:∀ j,j<4096*6->(w.cell? (Aw ge j)).isSome=true)(hf:∀ j,w.frozen? (Aw ge j)=false) :
 (Builtin.clear_ #[175] ty #[.slice (some (Av ge)) 4096 cap]).run prog w=.ok (.tuple #[]) (w.setCells ge 0 ((List.replicate 4096 ent0).flatMap entV)):=OQ w ty ge cap 4095 hc hf
theorem OS (w:Wd)(ty:TypeId):(Builtin.clear_ #[175] ty #[.slice none 0 0]).run prog w=.ok (.tuple #[]) w:=by
 unfold Builtin.clear_;simp only[List.getElem?_toArray,List.getElem?_cons_zero,WB,We underlying175,VZ];rfl
theorem OT (o:Own)(mb:Nat)(F G:Phi)(w:Wd)(h:Bb o w mb F)(hlt:Ac o w) :
 Cl 159 #[Pt mb] w fun x w'=>x=.returned (.tuple #[])/\Bb o w' mb G/\Chg (· = .entries) o o w w'/\Ac o w':=by
 obtain⟨ve,asked,found,g3,hv⟩:=h.ex;have g1:=h.own;obtain⟨c0,c1,c2,c3,f0⟩:=cells4 g3;rcases hv with rfl|⟨ge,cap,l,rfl,hl,g0,g8⟩
 ·have hr:=OS w 0;have HF:=Hd (show Bb o w mb G from ⟨h.own,_,_,_,g3,.inl rfl⟩);have HL:=Hd hlt;clear h hlt g3 g1
  go_enter func159,ntmps159
  go_wp2_with fail;refine Xi (WC rfl _ _ _) rfl ?_;exact⟨rfl,HF.o,Chg.refl _ _ _,HL.o⟩
 ·have hg:=g0.owner;have g7:mb≠ge:=fun e=>by subst e;rw[hg] at g1;cases g1
  have g2:(l.flatMap entV).length=4096*6:=by rw[BV entV 6 C6,hl]
  have hr:=OR w 0 ge cap (fun j hj=>by rw[g0.cell j (by rw[g2];exact hj),VA (by rw[g2];exact hj)];rfl) g0.frozen;obtain⟨W,hW⟩:=Ex (w.setCells ge 0 ((List.replicate 4096 ent0).flatMap entV));rw[<- hW] at hr;have g5:((List.replicate 4096 ent0).flatMap entV).length=4096*6:=by rw[BV entV 6 C6,WS]
  have g4:RowR o W .entries 287 6 (.slice (some (Av ge)) 4096 cap) 4096 ((List.replicate 4096 ent0).flatMap entV):=by
   have:=RowR.setCells ((List.replicate 4096 ent0).flatMap entV) w 0 _ g0 (by rw[g5,g2];omega);rw[List.take_zero,Ws,VW,Wu (by rw[g5,g2];exact Vu _),WU,<- hW] at this;exact this
  have g6:Chg (· = .entries) o o w W:=by rw[hW];exact Chg.setCells (R:=(· = .entries)) hg rfl _ _ _ (Chg.refl _ _ _)
  have HF:=Hd (show Bb o W mb G from ⟨g1,_,_,_,(by rw[hW];exact(ON g7 _ _ _).trans g3),.inr ⟨ge,cap,_,rfl,WS,g4,Km G _⟩⟩);have HL:=Hd (hlt.mono g6.size);have HC:=Hd g6;clear h hlt g3 g1 hl g0 g8 hg g2 g5 g4 g6 hW g7
  go_enter func159,ntmps159
  go_wp2_with fail;refine Xi (WC rfl _ _ _) rfl ?_;exact⟨rfl,HF.o,HC.o,HL.o⟩
theorem OU (o:Own)(F:Phi)(w:Wd)(hlt:Ac o w) :
 Cl 92 #[Iv 4096] w fun x w'=>∃ mb o',x=.returned (Pt mb)/\Bb o' w' mb F/\Chg (· = .memo) o o' w w'/\Ac o' w'/\w.heap.size<=mb:=by
 have HL:=Hd hlt;clear hlt
 go_enter func92,ntmps92
 go_wp2_with fail;go_ret;exact⟨w.heap.size,AI o w.heap.size .memo,rfl,⟨B0 _ _ _,_,_,_,Vv w _,.inl rfl⟩,(Chg.refl _ o w).allocR HL.o _ rfl,HL.o.allocR _ _,Vu _⟩
theorem EC (w:Wd)(T:TypeId):(Instr.makeMap T none).run P w=.ok (.map (some w.heap.size)) (w.alloc (.map #[] 0)):=rfl
theorem OV (o:Own)(v:Nat)(w:Wd)(hlt:Ac o w) :
 Cl 141 #[] w fun x w'=>∃ t o',x=.returned (Pt t)/\AN o' w' v t (fun _=>none)/\Chg (fun r=>r=.tab v\/r=.tmap v) o o' w w'/\Ac o' w'/\w.heap.size<=t:=by
 have HL:=Hd hlt;have hm:=EC (P:=prog) w 228;clear hlt
 go_enter func141,ntmps141
 go_wp2_with fail;go_ret;have g0:=HL.o.allocR (.map #[] 0) (.tmap v);have g4:=((Chg.refl (fun r=>r=.tab v\/r=.tmap v) o w).allocR (r:=.tmap v) HL.o (.map #[] 0) (.inr rfl));have g2:=g0.allocR (.cells #[.map (some w.heap.size)] 230) (.tab v);have g3:=g4.allocR (r:=.tab v) g0 (.cells #[.map (some w.heap.size)] 230) (.inl rfl);have hz:(w.alloc (.map #[] 0)).heap.size=w.heap.size+1:=by simp
 have g1:w.heap.size<(w.alloc (.map #[] 0)).heap.size:=by rw[hz];omega
 refine⟨w.heap.size+1,_,rfl,⟨by rw[<- hz];exact B0 _ _ _,w.heap.size,[],by rw[<- hz];exact Vv _ _,CE g0 (Vu _) (B0 _ _ _),⟨⟨#[],0,(VL _ _ g1).trans (Vv w _),rfl,by simp,by simp⟩,by simp⟩,fun k=>rfl⟩,g3,g2,by omega⟩
section
variable {m:Nat}
structure Left (P:Program)(l:List Oper)(Q:Exit->Act->Wd->Prop)(S:Wd->Prop)(m f:Nat)(L:Array Bool)(a:Act)(w:Wd):Prop where
 goes:Closed l.toArray L->S w->D4 P l.toArray (NP Q) S m f L a w
theorem GQ (S:Wd->Prop)(m:Nat)(hm:P.follows .mixedOrders=true)(hS:S w.drew)
 (h:Left P l Q S m l.length (Array.replicate l.toArray.size false) a w.drew):(Code.region id l.toArray true).wp P Q a w :=
 JV (wp_region_any hm (Fv _ _ _ _ (h.goes (GA _) hS)))
theorem OW (i:Nat)(o:Oper)(v:Value)(hi:l[i]?=some o)
 (hB:(Region.noSelect l.toArray&&(Region.ready .any l.toArray L).contains i&&Region.free .any l.toArray L i&&(decide (l.toArray.size<=m)||reaches l.toArray l.toArray.size i m))=true)
 (hy:∀ w,S w->YieldsIf P l.toArray S o v a) (h:Left P l Q S m f (L.setIfInBounds i true) (a.put o.dst v) w):Left P l Q S m (f+1) L a w:=by
 refine⟨fun hc hS=>?_⟩;simp only[Wq] at hB;obtain⟨⟨⟨hs,hr⟩,hf⟩,hm⟩:=hB;have g1:l.toArray[i]?=some o:=by simpa using hi
 have g0:i∈Region.ready .any l.toArray L:=by simpa using hr
 exact GB g1 hs (fun _ _ _ _ _ h=>h) hm f L a w hc (Region.free_spec g1 hf) g0 (hy w hS) hS (h.goes (hc.set g0) hS)
theorem Cb (i:Nat){o:Oper}(hi:l[i]?=some o)(hg:o.guard=none)
 (hB:(Region.noSelect l.toArray&&(Region.ready .any l.toArray L).contains i&&Region.free .any l.toArray L i&&(decide (l.toArray.size<=m)||reaches l.toArray l.toArray.size i m))=true)
 (h:∃ v,(∀ w,S w->(execOp a.eval o).run P w=.ok (.value v) w)/\Left P l Q S m f (L.setIfInBounds i true) (a.put o.dst v) w):Left P l Q S m (f+1) L a w:=by
 obtain⟨v,h1,h2⟩:=h;exact OW i o v hi hB (fun w _=>.inl ⟨by simp[Region.wanted,hg],h1⟩) h2
theorem Dm (is:List Nat)(hr:(decide (Region.ready .any l.toArray L=is) && !is.isEmpty)=true)
 (h:∀ i∈is,S w->∀ o,l[i]?=some o->Region.wanted o (yielded l.toArray a.tmps)=true/\o.wp P a w (fun a' w'=>S w'/\Left P l Q S m f (L.setIfInBounds i true) a' w') (NP Q)):Left P l Q S m (f+1) L a w:=by
 refine⟨fun hc hS=>?_⟩;simp only[Wq,WH] at hr;obtain⟨hr,g1⟩:=hr;refine⟨fun h0=>(by rw[h0] at hr;subst hr;simp at g1),fun i hi=>?_⟩;have g2:i∈is:=by rw[<- hr];exact hi
 obtain⟨_,o,ho,_⟩:=mem_ready.1 hi;obtain⟨hw,g0⟩:=h i g2 hS o (by simpa using ho);unfold wpOp;rw[ho];simp only[hw,Wy];left;refine Oper.wp_mono ?_ g0;intro a' w' ⟨h1,h2⟩;exact⟨.inr h1,h2.goes (hc.set hi) h1⟩
theorem FA (hr:(Region.ready .any l.toArray L).isEmpty=true)(h:Q .normal a w):Left P l Q S m 0 L a w :=
 ⟨fun _ _=>⟨by simpa [Yl] using hr,h⟩⟩
theorem CW {o:Oper}{K:Act->Wd->Prop}(he:(execOp a.eval o).run P w=.ok (.value v) w')(h:K (a.put o.dst v) w'):o.wp P a w K Q:=by
 unfold Oper.wp;rw[he];exact h
end
def pool0 (room:Nat):Ad:=⟨room,[rn0],[false],[],0⟩
abbrev Bt:Obj:=.cells #[Iv 0,Iv 0,Iv 0,Iv 0,Iv 0] 254
abbrev Bu:Obj:=.cells #[.bool false] 4
theorem Kq {o:Own}{gs gt:Nat}(hr:room<=1048576)(hop:o pb=some .pool)(hos:o gs=some .slots)(hot:o gt=some .taken)
 (hpb:w.heap[pb]?=some (.cells #[Iv room,.slice (some (Av gs)) 1 1,.slice (some (Av gt)) 1 1,.slice none 0 0,Iv 0] 227 (0,0)))
 (hs:w.heap[gs]?=some Bt) (ht:w.heap[gt]?=some Bu):Ap o w pb (pool0 room):=by
 refine⟨hop,⟨_,_,_,hpb,⟨rfl,.inr ⟨gs,1,_,rfl,hos,hs,Vu _,by decide,by decide,rfl⟩⟩,⟨rfl,.inr ⟨gt,1,_,rfl,hot,ht,Vu _,by decide,by decide,rfl⟩⟩,RowR.nil _ _ _ _ _⟩,rfl,hr,by simp[pool0],rfl,by simp[pool0],?_,rfl,by simp[pool0],by simp[pool0],?_⟩
 ·intro i hi;have:(pool0 room).tk i=false:=by
   cases i<;>rfl
  rw[this] at hi;cases hi
 . simp[pool0,Ag,Ad.tk]
theorem OX:madeCells (Value.cells (.agg #[Iv 0,Iv 0,Iv 0,Iv 0,Iv 0])) (Int.toNat 1*5)=#[Iv 0,Iv 0,Iv 0,Iv 0,Iv 0]:=by kernel_rfl
theorem OY:madeCells (Value.cells (.bool false)) (Int.toNat 1*1)=#[.bool false]:=by kernel_rfl
theorem OZ (w:Wd):(Instr.makeSlice 225 (Iv 1) (Iv 1)).run prog w=.ok (.slice (some (Av w.heap.size)) 1 1) (w.alloc Bt):=by
 have s:=F6;cases hi:prog.info? 254 with
 | none=>rw[hi] at s;cases s
 | some i =>
   rw[hi] at s;simp only[WI,Wg,Xg] at s;obtain⟨hz,hs,hb⟩:=s;have:=run_make (P:=prog) w 225 254 i _ underlying225 hi hz .i64 .i64 1 1 (by decide) (by decide) (by rw[hb];decide) (by decide);rw[hs,OX] at this;exact this
theorem Pa (w:Wd):(Instr.makeSlice 90 (Iv 1) (Iv 1)).run prog w=.ok (.slice (some (Av w.heap.size)) 1 1) (w.alloc Bu):=by
 have s:=GE;cases hi:prog.info? 4 with
 | none=>rw[hi] at s;cases s
 | some i =>
   rw[hi] at s;simp only[WI,Wg,Xg] at s;obtain⟨hz,hs,hb⟩:=s;have:=run_make (P:=prog) w 90 4 i _ underlying90 hi hz .i64 .i64 1 1 (by decide) (by decide) (by rw[hb];decide) (by decide);rw[hs,OY] at this;exact this
abbrev NewR (r:Role):Prop:=r=.pool\/r=.slots\/r=.taken
theorem made2 {o:Own}(hlt:Ac o w)(A B C:Obj)(ra rb:Role)(h1:NewR ra)(h2:NewR rb) :
 ∃ o',o' w.heap.size=some ra/\o' (w.heap.size+1)=some rb/\o' (w.heap.size+2)=some .pool/\Chg NewR o o' w (((w.alloc A).alloc B).alloc C)/\Ac o' (((w.alloc A).alloc B).alloc C) /\
  (((w.alloc A).alloc B).alloc C).heap[w.heap.size]?=some A/\(((w.alloc A).alloc B).alloc C).heap[w.heap.size+1]?=some B/\(((w.alloc A).alloc B).alloc C).heap[w.heap.size+2]?=some C:=by
 have z1:(w.alloc A).heap.size=w.heap.size+1:=by simp
 have z2:((w.alloc A).alloc B).heap.size=w.heap.size+2:=by simp
 have l1:=hlt.allocR A ra;have c1:=(Chg.refl NewR o w).allocR hlt A h1;have l2:=l1.allocR B rb;have c2:=c1.allocR l1 B h2;have l3:=l2.allocR C .pool;have c3:=c2.allocR l2 C (show NewR .pool from .inl rfl);refine⟨_,?_,?_,?_,c3,l3,?_,?_,?_⟩
 . exact CE l2 (Vu _) (CE l1 (Vu _) (B0 _ _ _))
 . rw[<- z1];exact CE l2 (Vu _) (B0 _ _ _)
 . rw[<- z2];exact B0 _ _ _
 . rw[VL _ _ (by omega),VL _ _ (by omega)];exact Vv w A
 . rw[VL _ _ (by omega),<- z1];exact Vv _ B
 . rw[<- z2];exact Vv _ C
theorem Pb (o:Own)(room:Nat)(w:Wd)(hlt:Ac o w)(h1:1<=room)(h2:room<=1048576) :
 Cl 139 #[Iv room] w fun x w'=>∃ pb o',x=.returned (.tuple #[Pt pb,Iv 0])/\Ap o' w' pb (pool0 room)/\Chg NewR o o' w w'/\Ac o' w'/\w.heap.size<=pb:=by
 have HL:=Hd hlt;have b1:(1:Int)<=room:=by omega
 have b2:(room:Int)<=1048576:=by omega
 have g2:=Hd OZ;have g1:=Hd Pa;clear hlt
 go_enter func139,ntmps139
 go_upto_region 3 with fail;refine GQ (fun W=>True) 7 (by kernel_rfl) trivial ?_;refine Cb 0 rfl rfl (by kernel_rfl) ?_;apply Exists.intro;refine⟨fun w' hw=>?_,?_⟩
 . go_simp;rfl
 simp only[Ab];refine Dm [1,2] (by kernel_rfl) (fun i hi hS o ho=>?_);simp only[CC] at hi;rcases hi with rfl|rfl
 ·simp only[C5] at ho;subst ho;refine⟨rfl,?_⟩;have hm:=g2.o w.drew;rw[show w.drew.heap.size=w.heap.size from rfl] at hm;refine CW (v:=.slice (some (Av w.heap.size)) 1 1) (w':=w.drew.alloc Bt) (by go_simp) ⟨trivial,?_⟩;simp only[Ab];refine Dm [2] (by kernel_rfl) (fun i hi hS o ho=>?_);simp only[CC] at hi;subst hi;simp only[C5] at ho;subst ho;refine⟨rfl,?_⟩;have hm:(Instr.makeSlice 90 (Iv 1) (Iv 1)).run prog (w.alloc Bt).drew=.ok (.slice (some (Av (w.heap.size+1))) 1 1) ((w.alloc Bt).alloc Bu).drew:=by
   have:=g1.o (w.alloc Bt).drew;rw[show (w.alloc Bt).drew.heap.size=w.heap.size+1 from VK w _] at this;exact this
  refine CW (v:=.slice (some (Av (w.heap.size+1))) 1 1) (w':=((w.alloc Bt).alloc Bu).drew) (by go_simp) ⟨trivial,?_⟩;simp only[Ab];refine Cb 3 rfl rfl (by kernel_rfl) ?_;apply Exists.intro;refine⟨fun w' hw=>?_,?_⟩
  . go_simp;rfl
  simp only[Ab];refine Dm [4] (by kernel_rfl) (fun i hi hS o ho=>?_);simp only[CC] at hi;subst hi;simp only[C5] at ho;subst ho;refine⟨rfl,?_⟩;have hz:((w.alloc Bt).alloc Bu).heap.size=w.heap.size+2:=by simp
  refine CW (v:=Pt (w.heap.size+2)) (w':=(((w.alloc Bt).alloc Bu).alloc (.cells #[Iv room,.slice (some (Av w.heap.size)) 1 1,.slice (some ⟨(w.heap.size+1),0,none⟩) 1 1,.slice none 0 0,Iv 0] 227)).drew) (by go_simp) ⟨trivial,?_⟩;simp only[Ab];refine Cb 5 rfl rfl (by kernel_rfl) ?_;apply Exists.intro;refine⟨fun w' hw=>?_,?_⟩
  . go_simp;rfl
  simp only[Ab];refine Cb 6 rfl rfl (by kernel_rfl) ?_;apply Exists.intro;refine⟨fun w' hw=>?_,?_⟩
  . go_simp;rfl
  simp only[Ab];refine FA (by kernel_rfl) ?_;obtain⟨o',q1,q2,q3,q4,q5,q6,q7,q8⟩:=made2 HL.o Bt Bu (.cells #[Iv room,.slice (some (Av w.heap.size)) 1 1,.slice (some ⟨(w.heap.size+1),0,none⟩) 1 1,.slice none 0 0,Iv 0] 227) .slots .taken (.inr (.inl rfl)) (.inr (.inr rfl));have g0:Ap o' (((w.alloc Bt).alloc Bu).alloc (.cells #[Iv room,.slice (some (Av w.heap.size)) 1 1,.slice (some ⟨(w.heap.size+1),0,none⟩) 1 1,.slice none 0 0,Iv 0] 227)).drew (w.heap.size+2) (pool0 room):=Kq h2 q3 q1 q2 q8 q6 q7;have q4':=q4.drew;have q5':Ac o' (((w.alloc Bt).alloc Bu).alloc (.cells #[Iv room,.slice (some (Av w.heap.size)) 1 1,.slice (some ⟨(w.heap.size+1),0,none⟩) 1 1,.slice none 0 0,Iv 0] 227)).drew:=q5;clear q1 q2 q3 q4 q5 q6 q7 q8 hm hz;go_wp2_with fail
  go_ret2
  exact⟨w.heap.size+2,o',rfl,g0,q4',q5',by omega⟩
 ·simp only[C5] at ho;subst ho;refine⟨rfl,?_⟩;have hm:=g1.o w.drew;rw[show w.drew.heap.size=w.heap.size from rfl] at hm;refine CW (v:=.slice (some (Av w.heap.size)) 1 1) (w':=w.drew.alloc Bu) (by go_simp) ⟨trivial,?_⟩;simp only[Ab];refine Dm [1] (by kernel_rfl) (fun i hi hS o ho=>?_);simp only[CC] at hi;subst hi;simp only[C5] at ho;subst ho;refine⟨rfl,?_⟩;have hm:(Instr.makeSlice 225 (Iv 1) (Iv 1)).run prog (w.alloc Bu).drew=.ok (.slice (some (Av (w.heap.size+1))) 1 1) ((w.alloc Bu).alloc Bt).drew:=by
   have:=g2.o (w.alloc Bu).drew;rw[show (w.alloc Bu).drew.heap.size=w.heap.size+1 from VK w _] at this;exact this
  refine CW (v:=.slice (some (Av (w.heap.size+1))) 1 1) (w':=((w.alloc Bu).alloc Bt).drew) (by go_simp) ⟨trivial,?_⟩;simp only[Ab];refine Cb 3 rfl rfl (by kernel_rfl) ?_;apply Exists.intro;refine⟨fun w' hw=>?_,?_⟩
  . go_simp;rfl
  simp only[Ab];refine Dm [4] (by kernel_rfl) (fun i hi hS o ho=>?_);simp only[CC] at hi;subst hi;simp only[C5] at ho;subst ho;refine⟨rfl,?_⟩;have hz:((w.alloc Bu).alloc Bt).heap.size=w.heap.size+2:=by simp
  refine CW (v:=Pt (w.heap.size+2)) (w':=(((w.alloc Bu).alloc Bt).alloc (.cells #[Iv room,.slice (some ⟨(w.heap.size+1),0,none⟩) 1 1,.slice (some (Av w.heap.size)) 1 1,.slice none 0 0,Iv 0] 227)).drew) (by go_simp) ⟨trivial,?_⟩;simp only[Ab];refine Cb 5 rfl rfl (by kernel_rfl) ?_;apply Exists.intro;refine⟨fun w' hw=>?_,?_⟩
  . go_simp;rfl
  simp only[Ab];refine Cb 6 rfl rfl (by kernel_rfl) ?_;apply Exists.intro;refine⟨fun w' hw=>?_,?_⟩
  . go_simp;rfl
  simp only[Ab];refine FA (by kernel_rfl) ?_;obtain⟨o',q1,q2,q3,q4,q5,q6,q7,q8⟩:=made2 HL.o Bu Bt (.cells #[Iv room,.slice (some ⟨(w.heap.size+1),0,none⟩) 1 1,.slice (some (Av w.heap.size)) 1 1,.slice none 0 0,Iv 0] 227) .taken .slots (.inr (.inr rfl)) (.inr (.inl rfl));have g0:Ap o' (((w.alloc Bu).alloc Bt).alloc (.cells #[Iv room,.slice (some ⟨(w.heap.size+1),0,none⟩) 1 1,.slice (some (Av w.heap.size)) 1 1,.slice none 0 0,Iv 0] 227)).drew (w.heap.size+2) (pool0 room):=Kq h2 q3 q2 q1 q8 q7 q6;have q4':=q4.drew;have q5':Ac o' (((w.alloc Bu).alloc Bt).alloc (.cells #[Iv room,.slice (some ⟨(w.heap.size+1),0,none⟩) 1 1,.slice (some (Av w.heap.size)) 1 1,.slice none 0 0,Iv 0] 227)).drew:=q5;clear q1 q2 q3 q4 q5 q6 q7 q8 hm hz;go_wp2_with fail
  go_ret2
  exact⟨w.heap.size+2,o',rfl,g0,q4',q5',by omega⟩
structure Ae where
 vars:List Nat
 level:List Nat
 pool:Ad
 tab:Nat->Nat×Nat->Option Nat
 counts:List Nat
 dead:Nat
variable {d d':Ae}
structure A4 where
 lb:Nat
 pb:Nat
 vv:Value
 vl:Value
 vt:Value
 vc:Value
 ts:List Nat
def ptrV (b:Nat):Value:=Pt b
structure Ao (o:Own)(w:Wd)(sb:Nat)(d:Ae)(s:A4):Prop where
 own:o sb=some .store
 ownl:o s.lb=some .levels
 blk:w.heap[sb]?=some (.cells #[Pt s.lb,Pt s.pb,s.vt,s.vc,Iv d.dead] 150 (0,0))
 lev:w.heap[s.lb]?=some (.cells #[s.vv,s.vl] 152 (0,0))
 vars:RowR o w .vars 3 1 s.vv d.vars.length (d.vars.map nat64)
 level:RowR o w .level 3 1 s.vl d.level.length (d.level.map nat64)
 pool:Ap o w s.pb d.pool
 tabs:RowR o w .tabs 173 1 s.vt s.ts.length (s.ts.map ptrV)
 tab:∀ v,v<s.ts.length->AN o w v (s.ts.getD v 0) (d.tab v)
 counts:RowR o w .counts 3 1 s.vc d.counts.length (d.counts.map nat64)
 len:d.level.length=d.vars.length
 tlen:s.ts.length=d.vars.length
def Az (o:Own)(w:Wd)(sb:Nat)(d:Ae):Prop:=∃ s,Ao o w sb d s
theorem Ao.below {o:Own}{w w':Wd}{sb:Nat}{d:Ae}{s:A4}(h:Ao o w sb d s)(hlt:Ac o w)(hb:Bw w w'):Ao o w' sb d s :=
 ⟨h.own,h.ownl,(hb.block sb (hlt _ _ h.own)).trans h.blk,(hb.block s.lb (hlt _ _ h.ownl)).trans h.lev,h.vars.below hlt hb,h.level.below hlt hb,h.pool.below hb hlt,h.tabs.below hlt hb,fun v hv=>(h.tab v hv).below hb hlt,h.counts.below hlt hb,h.len,h.tlen⟩
def Ae.levelOf (d:Ae)(v:Nat):Int:=if v<d.level.length then (d.level.getD v 0:Nat) else -1
theorem cells2 {a b:Value}(h:w.heap[g]?=some (.cells #[a,b] T (0,0))):w.cell? (Av g)=some a/\w.cell? (Aw g 1)=some b/\(∀ k,w.frozen? (Aw g k)=false) :=
 ⟨by rw[Vt w g 0 _ _ _ h];rfl,by rw[Vt w g 1 _ _ _ h];rfl,fun k=>by simp[World.frozen?,h]⟩
theorem Pc {o:Own}{s:A4}(h:Ao o w sb d s)(v:Nat)(hbig:d.level.length<1000000) :
 Cl 195 #[Pt s.lb,Iv v] w (Sm (Iv (d.levelOf v)) w):=by
 obtain⟨c0,c1,_⟩:=cells2 h.lev;obtain⟨a,cap,g1,_⟩:=h.level.slice;rw[g1] at c1;have g0:=h.level;rw[g1] at g0
 by_cases hv:v<d.level.length
 ·obtain⟨g,cap',he,_⟩:=g0.shape (by omega);cases he;have hx:=g0.cell v (by simpa using hv);have g2:(d.level.map nat64)[v]?=some (Iv ((d.level.getD v 0:Nat):Int)):=by
   rw[WP,VA hv];simp[nat64,List.getD,hv]
  rw[g2] at hx;have g3:(v:Int)<d.level.length:=by omega
  have hr:d.levelOf v=((d.level.getD v 0:Nat):Int):=by simp[Ae.levelOf,hv]
  rw[hr];obtain⟨L,hL⟩:=Ex (((d.level.getD v 0:Nat):Int):Int);rw[<- hL] at hx ⊢;clear h g0 g1 g2 hr hL
  go_enter func195,ntmps195
  go_wp2_with fail;go_ret;exact⟨rfl,rfl⟩
 ·have g3:(d.level.length:Int)<=v:=by omega
  have hr:d.levelOf v = -1:=by simp[Ae.levelOf,hv]
  rw[hr];clear h g0 g1 hr
  go_enter func195,ntmps195
  go_wp2_with fail;go_ret;exact⟨rfl,rfl⟩
theorem GR {o:Own}{s:A4}(h:Ao o w sb d s)(v:Nat)(hbig:d.level.length<1000000) :
 Cl 142 #[Pt sb,Iv v] w (Sm (Iv (d.levelOf v)) w):=by
 obtain⟨c0,c1,c2,c3,c4,f0⟩:=cells5 h.blk;have HC:=Hd (Pc h v hbig);clear h
 go_enter func142,ntmps142
 go_wp2_with fail;refine HC.o.mono ?_;rintro x w' ⟨rfl,rfl⟩;go_wp2_with fail;go_ret;exact⟨rfl,rfl⟩
def Ad.has (p:Ad)(i:Nat):RN:=if p.tk i=true then p.nd i else rn0
theorem CX (o:Own)(pb:Nat)(p:Ad)(i:Nat)(w:Wd)(h:Ap o w pb p)(hlt:Ac o w) :
 Cl 228 #[Pt pb,Iv i] w (Bl (.tuple #[An (p.has i),.bool (p.tk i)]) w):=by
 by_cases hi:p.tk i=true
 . have:=JZ o pb p i w h hlt hi;unfold Ad.has;rw[Vw hi,hi];exact this
 ·have g0:p.tk i=false:=by simpa using hi
  have:=Ot o pb p i w h hlt g0;unfold Ad.has;rw[Vs hi,g0];exact this
theorem Kr (k:Nat):(((k:Nat):Int) == 0)=decide (k=0):=by
 cases k with
 | zero=>rfl
 | succ n=>simp;omega
theorem CY {o:Oper}{f:FuncId}{K:Act->Wd->Prop}{R:Wd->Prop}(he:(execOp a.eval o).run P w=.ok (.enter f args) w)
 (hc:Calls P f args w fun e w'=>e=.returned v/\R w') (h:∀ w',R w'->K (a.put o.dst v) w'):o.wp P a w K Q:=by
 unfold Oper.wp;simp only[he,Oper.upon];exact hc.mono fun e w' ⟨h1,h2⟩=>by subst h1;exact h w' h2
theorem Ks {o:Oper}{s x:Operand}{K:Act->Wd->Prop}(ho:o.op=.store t s x)
 (hr:(Instr.storeAt t (a.eval s) (a.eval x)).run P w=.ok () w') (h:K (a.put o.dst undef) w'):o.wp P a w K Q:=by
 unfold Oper.wp;rw[GG ho hr];exact h
theorem Kt {bx:Nat}(hb:Bw w W)(hge:w.heap.size<=bx)(n:RN):Bw w (set5 W bx 0 n) :=
 ((((hb.setCell (p:=Av bx) hge _).setCell (p:=Aw bx 1) hge _).setCell (p:=Aw bx 2) hge _).setCell (p:=Aw bx 3) hge _).setCell (p:=Aw bx 4) hge _
theorem Pd {bx:Nat}(h:W.heap[bx]?=some (.cells #[Iv 0,Iv 0,Iv 0,Iv 0,Iv 0] 254 (0,0)))(n:RN) :
 (set5 W bx 0 n).heap[bx]?=some (.cells #[Iv n.id,Iv n.v,Iv n.lo,Iv n.hi,Iv n.refs] 254 (0,0)) :=
 A2 (k:=4) (A2 (k:=3) (A2 (k:=2) (A2 (k:=1) (A2 (k:=0) h _) _) _) _) _
theorem DQ (a:Act){d:Option Tmp}{t:Tmp}(u v:Value)(h:d≠some t):(a.put (some t) u).put d v=(a.put d v).put (some t) u:=by
 cases d with
 | none=>rfl
 | some e =>
   have g0:t≠e:=fun c=>h (by rw[c])
   simp only[Act.put];rw[Array.setIfInBounds_comm _ _ g0]
theorem Pe (a:Act)(t:Tmp)(u v:Value):(a.put (some t) u).put (some t) v=a.put (some t) v:=by
 simp only[Act.put,Array.setIfInBounds_setIfInBounds]
abbrev Xq:=@Array.getElem?_setIfInBounds
theorem Pf (a:Act)(t:Tmp):a.put (some t) (a.tmps.getD t undef)=a:=by
 simp only[Act.put];have:a.tmps.setIfInBounds t (a.tmps.getD t undef)=a.tmps:=by
  apply Array.ext_getElem?;intro i;rw[Xq];split
  ·rename_i e
   subst e;split
   ·rename_i hl
    simp[Array.getD,hl]
   ·rename_i hl
    exact(X2 (by omega)).symm
  . rfl
 rw[this]
def lwd (l:List Oper)(is:List Nat):Array Bool:=is.foldl (fun L i=>L.setIfInBounds i true) (Array.replicate l.toArray.size false)
abbrev Xt:=@List.foldl_append
theorem GS (l:List Oper)(is:List Nat)(i:Nat):lwd l (is++[i])=(lwd l is).setIfInBounds i true:=by
 unfold lwd;rw[Xt];rfl
def rdR (l:List Oper)(is:List Nat)(i:Nat):Bool:=Region.noSelect l.toArray&&(Region.ready .any l.toArray (lwd l is)).contains i&&Region.free .any l.toArray (lwd l is) i&&(decide (l.toArray.size<=13)||reaches l.toArray l.toArray.size i 13)
def rdA (l:List Oper)(is js:List Nat):Bool:=decide (Region.ready .any l.toArray (lwd l is)=js) && !js.isEmpty
def rdE (l:List Oper)(is:List Nat):Bool:=(Region.ready .any l.toArray (lwd l is)).isEmpty
def andL:List Bool->Bool
 | []=>true
 | b::r=>b&&andL r
theorem AT {r:List Bool}(h:andL r=true)(i:Nat){b:Bool}(hb:r[i]?=some b):b=true:=by
 induction r generalizing i with
 | nil=>simp at hb
 | cons c r ih =>
   have h2:(c&&andL r)=true:=h;rw[Wq] at h2;cases i with
   | zero=>simp at hb;rw[<- hb];exact h2.1
   | succ i=>exact ih h2.2 i (by simpa using hb)
def Pg (l:List Oper):List Bool:=[rdR l [] 0,
 rdR l ([]++[0]) 1,
 rdR l (([]++[0])++[1]) 2,
 rdR l ((([]++[0])++[1])++[2]) 3,
 rdR l (((([]++[0])++[1])++[2])++[3]) 4,
 rdA l ((((([]++[0])++[1])++[2])++[3])++[4]) [5,10],
 rdA l (((((([]++[0])++[1])++[2])++[3])++[4])++[5]) [6,10],
 rdR l ((((((([]++[0])++[1])++[2])++[3])++[4])++[5])++[6]) 7,
 rdR l (((((((([]++[0])++[1])++[2])++[3])++[4])++[5])++[6])++[7]) 8,
 rdR l ((((((((([]++[0])++[1])++[2])++[3])++[4])++[5])++[6])++[7])++[8]) 9,
 rdA l (((((((((([]++[0])++[1])++[2])++[3])++[4])++[5])++[6])++[7])++[8])++[9]) [10],
 rdA l ((((((((((([]++[0])++[1])++[2])++[3])++[4])++[5])++[6])++[7])++[8])++[9])++[10]) [11],
 rdR l (((((((((((([]++[0])++[1])++[2])++[3])++[4])++[5])++[6])++[7])++[8])++[9])++[10])++[11]) 12,
 rdE l ((((((((((((([]++[0])++[1])++[2])++[3])++[4])++[5])++[6])++[7])++[8])++[9])++[10])++[11])++[12]),
 rdA l ((((((([]++[0])++[1])++[2])++[3])++[4])++[5])++[10]) [6],
 rdR l (((((((([]++[0])++[1])++[2])++[3])++[4])++[5])++[10])++[6]) 7,
 rdR l ((((((((([]++[0])++[1])++[2])++[3])++[4])++[5])++[10])++[6])++[7]) 8,
 rdR l (((((((((([]++[0])++[1])++[2])++[3])++[4])++[5])++[10])++[6])++[7])++[8]) 9,
 rdA l ((((((((((([]++[0])++[1])++[2])++[3])++[4])++[5])++[10])++[6])++[7])++[8])++[9]) [11],
 rdR l (((((((((((([]++[0])++[1])++[2])++[3])++[4])++[5])++[10])++[6])++[7])++[8])++[9])++[11]) 12,
 rdE l ((((((((((((([]++[0])++[1])++[2])++[3])++[4])++[5])++[10])++[6])++[7])++[8])++[9])++[11])++[12]),
 rdA l (((((([]++[0])++[1])++[2])++[3])++[4])++[10]) [5],
 rdA l ((((((([]++[0])++[1])++[2])++[3])++[4])++[10])++[5]) [6],
 rdR l (((((((([]++[0])++[1])++[2])++[3])++[4])++[10])++[5])++[6]) 7,
 rdR l ((((((((([]++[0])++[1])++[2])++[3])++[4])++[10])++[5])++[6])++[7]) 8,
 rdR l (((((((((([]++[0])++[1])++[2])++[3])++[4])++[10])++[5])++[6])++[7])++[8]) 9,
 rdA l ((((((((((([]++[0])++[1])++[2])++[3])++[4])++[10])++[5])++[6])++[7])++[8])++[9]) [11],
 rdR l (((((((((((([]++[0])++[1])++[2])++[3])++[4])++[10])++[5])++[6])++[7])++[8])++[9])++[11]) 12,
 rdE l ((((((((((((([]++[0])++[1])++[2])++[3])++[4])++[10])++[5])++[6])++[7])++[8])++[9])++[11])++[12])]
abbrev Dn:Obj:=.cells #[Iv 0,Iv 0,Iv 0,Iv 0,Iv 0] 254
abbrev GT (n:RN):Obj:=.cells #[Iv n.id,Iv n.v,Iv n.lo,Iv n.hi,Iv n.refs] 254 (0,0)
section
theorem ED {is:List Nat}{o:Oper}(hr:rdA l is [i]=true)(ho:l[i]?=some o)(hg:o.guard=none)
 (h:S w->o.wp P a w (fun a' w'=>S w'/\Left P l Q S 13 f (lwd l (is++[i])) a' w') (NP Q)):Left P l Q S 13 (f+1) (lwd l is) a w :=
 Dm [i] hr fun j hj hS o2 ho2=>by
  rw[VB] at hj;subst hj;rw[ho] at ho2;cases ho2;rw[<- GS];exact⟨by simp[Region.wanted,hg],h hS⟩
theorem Ku {is:List Nat}{o p:Oper}(hr:rdA l is [i,j]=true)(ho:l[i]?=some o)(hp:l[j]?=some p)(hg:o.guard=none)(hq:p.guard=none)
 (h:S w->o.wp P a w (fun a' w'=>S w'/\Left P l Q S 13 f (lwd l (is++[i])) a' w') (NP Q)) (h2:S w->p.wp P a w (fun a' w'=>S w'/\Left P l Q S 13 f (lwd l (is++[j])) a' w') (NP Q)):Left P l Q S 13 (f+1) (lwd l is) a w :=
 Dm [i,j] hr fun k hk hS o2 ho2=>by
  simp only[Wj,Yk,or_false] at hk;rw[<- GS];rcases hk with rfl|rfl
  . rw[ho] at ho2;cases ho2;exact⟨by simp[Region.wanted,hg],h hS⟩
  . rw[hp] at ho2;cases ho2;exact⟨by simp[Region.wanted,hq],h2 hS⟩
theorem BX {is:List Nat}{o:Oper}(hB:rdR l is i=true)(ho:l[i]?=some o)(hg:o.guard=none)
 (hv:∀ w,S w->(execOp a.eval o).run P w=.ok (.value v) w) (h:Left P l Q S 13 f (lwd l (is++[i])) (a.put o.dst v) w):Left P l Q S 13 (f+1) (lwd l is) a w :=
 Cb i ho hg hB ⟨v,hv,by rw[<- GS];exact h⟩
theorem D6 {o0 o1 o2 o3 o4 o5 o6 o7 o8 o9 o10 o11 o12:Oper}{t:Tmp}{N:RN}(hl:l=[o0,o1,o2,o3,o4,o5,o6,o7,o8,o9,o10,o11,o12])(rd:andL (Pg l)=true)(hm:P.follows .mixedOrders=true)
 (hg:(o0.guard=none/\o1.guard=none/\o2.guard=none/\o3.guard=none/\o4.guard=none/\o5.guard=none/\o6.guard=none)/\o7.guard=none/\o8.guard=none/\o9.guard=none/\o10.guard=none/\o11.guard=none/\o12.guard=none)
 (ht:o10.dst=some t) (hne:o5.dst≠some t/\o6.dst≠some t/\o7.dst≠some t/\o8.dst≠some t/\o9.dst≠some t) (hS:Bw w0 w.drew)
 {v0 v1 v2 v3 v4 v5 v6 v7 v8 v9 v12:Value} {g5 g6:FuncId} {as5 as6:Array Value}
 (c5:∀ W,Bw w0 W->Calls P g5 as5 W (Sm v5 W)) (c6:∀ W,Bw w0 W->Calls P g6 as6 W (Bl v6 W))
 (h0:∀ W,Bw w0 W->(execOp a.eval o0).run P W=.ok (.value v0) W/\(execOp (a.put o0.dst v0).eval o1).run P W=.ok (.value v1) W/\(execOp ((a.put o0.dst v0).put o1.dst v1).eval o2).run P W=.ok (.value v2) W/\(execOp (((a.put o0.dst v0).put o1.dst v1).put o2.dst v2).eval o3).run P W=.ok (.value v3) W/\(execOp ((((a.put o0.dst v0).put o1.dst v1).put o2.dst v2).put o3.dst v3).eval o4).run P W=.ok (.value v4) W)
 (h5:∀ (x:Value) W,(execOp ((((((a.put o0.dst v0).put o1.dst v1).put o2.dst v2).put o3.dst v3).put o4.dst v4).put (some t) x).eval o5).run P W=.ok (.enter g5 as5) W/\(execOp (((((((a.put o0.dst v0).put o1.dst v1).put o2.dst v2).put o3.dst v3).put o4.dst v4).put (some t) x).put o5.dst v5).eval o6).run P W=.ok (.enter g6 as6) W)
 (h7:∀ (x:Value) (W:Wd) (X:Act),X=(((((((a.put o0.dst v0).put o1.dst v1).put o2.dst v2).put o3.dst v3).put o4.dst v4).put (some t) x).put o5.dst v5).put o6.dst v6->(execOp X.eval o7).run P W=.ok (.value v7) W/\(execOp (X.put o7.dst v7).eval o8).run P W=.ok (.value v8) W/\(execOp ((X.put o7.dst v7).put o8.dst v8).eval o9).run P W=.ok (.value v9) W)
 (h10:∀ (a:Act) W,(execOp a.eval o10).run P W=.ok (.value (Pt W.heap.size)) (W.alloc Dn))
 (h11:∀ (bx:Nat) (W:Wd) (Y:Act),W.heap[bx]?=some (.cells #[Iv 0,Iv 0,Iv 0,Iv 0,Iv 0] 254 (0,0))->Y=((((((((((a.put o0.dst v0).put o1.dst v1).put o2.dst v2).put o3.dst v3).put o4.dst v4).put (some t) (Pt bx)).put o5.dst v5).put o6.dst v6).put o7.dst v7).put o8.dst v8).put o9.dst v9->(∃ T s x,o11.op=.store T s x/\(Instr.storeAt T (Y.eval s) (Y.eval x)).run P W=.ok () (set5 W bx 0 N))/\∀ W,(execOp (Y.put o11.dst undef).eval o12).run P W=.ok (.value v12) W)
 (hf:∀ (bx:Nat) (W:Wd),w0.heap.size<=bx->Bw w0 W->W.heap[bx]?=some (GT N)->Q .normal ((((((((((((a.put o0.dst v0).put o1.dst v1).put o2.dst v2).put o3.dst v3).put o4.dst v4).put (some t) (Pt bx)).put o5.dst v5).put o6.dst v6).put o7.dst v7).put o8.dst v8).put o9.dst v9).put o11.dst undef |>.put o12.dst v12) W) :
 (Code.region id l.toArray true).wp P Q a w:=by
 obtain⟨⟨q0,q1,q2,q3,q4,q5,q6⟩,q7,q8,q9,q10,q11,q12⟩:=hg;obtain⟨n5,n6,n7,n8,n9⟩:=hne;have e0:l[0]?=some o0:=by rw[hl];rfl
 have e1:l[1]?=some o1:=by rw[hl];rfl
 have e2:l[2]?=some o2:=by rw[hl];rfl
 have e3:l[3]?=some o3:=by rw[hl];rfl
 have e4:l[4]?=some o4:=by rw[hl];rfl
 have e5:l[5]?=some o5:=by rw[hl];rfl
 have e6:l[6]?=some o6:=by rw[hl];rfl
 have e7:l[7]?=some o7:=by rw[hl];rfl
 have e8:l[8]?=some o8:=by rw[hl];rfl
 have e9:l[9]?=some o9:=by rw[hl];rfl
 have e10:l[10]?=some o10:=by rw[hl];rfl
 have e11:l[11]?=some o11:=by rw[hl];rfl
 have e12:l[12]?=some o12:=by rw[hl];rfl
 have g3:l.length=13:=by rw[hl];rfl
 clear hl;have r0:=AT rd 0 rfl;have r1:=AT rd 1 rfl;have r2:=AT rd 2 rfl;have r3:=AT rd 3 rfl;have r4:=AT rd 4 rfl;have s0:=AT rd 5 rfl;have s1:=AT rd 6 rfl;have p7:=AT rd 7 rfl;have p8:=AT rd 8 rfl;have p9:=AT rd 9 rfl;have p10:=AT rd 10 rfl;have p11:=AT rd 11 rfl;have p12:=AT rd 12 rfl;have p13:=AT rd 13 rfl;have u6:=AT rd 14 rfl;have u7:=AT rd 15 rfl;have u8:=AT rd 16 rfl;have u9:=AT rd 17 rfl;have u11:=AT rd 18 rfl;have u12:=AT rd 19 rfl;have u13:=AT rd 20 rfl;have k5:=AT rd 21 rfl;have k6:=AT rd 22 rfl;have k7:=AT rd 23 rfl;have k8:=AT rd 24 rfl;have k9:=AT rd 25 rfl;have k11:=AT rd 26 rfl;have k12:=AT rd 27 rfl;have k13:=AT rd 28 rfl;clear rd;refine GQ (fun W:Wd=>Bw w0 W) 13 hm hS ?_;rw[g3]
 show Left P l Q (fun W:Wd=>Bw w0 W) 13 13 (lwd l []) a w.drew
 have hw:=hS
 generalize w.drew=w at hw ⊢
 refine BX r0 e0 q0 (fun W hW=>(h0 W hW).1) ?_;refine BX r1 e1 q1 (fun W hW=>(h0 W hW).2.1) ?_;refine BX r2 e2 q2 (fun W hW=>(h0 W hW).2.2.1) ?_;refine BX r3 e3 q3 (fun W hW=>(h0 W hW).2.2.2.1) ?_;refine BX r4 e4 q4 (fun W hW=>(h0 W hW).2.2.2.2) ?_;obtain⟨A,hA⟩:=Ex (((((a.put o0.dst v0).put o1.dst v1).put o2.dst v2).put o3.dst v3).put o4.dst v4);rw[<- hA] at h5 h7 h11 hf ⊢;clear h0 hA;have c5p:∀ (x y:Value),((A.put (some t) x).put o5.dst v5).put (some t) y=(A.put (some t) y).put o5.dst v5:=fun x y=>by
  rw[DQ A x v5 n5,Pe,<- DQ A y v5 n5]
 have c9p:∀ (x y:Value),((((((A.put (some t) x).put o5.dst v5).put o6.dst v6).put o7.dst v7).put o8.dst v8).put o9.dst v9).put (some t) y=(((((A.put (some t) y).put o5.dst v5).put o6.dst v6).put o7.dst v7).put o8.dst v8).put o9.dst v9:=fun x y=>by
  rw[<- DQ _ y v9 n9,<- DQ _ y v8 n8,<- DQ _ y v7 n7,<- DQ _ y v6 n6,c5p]
 have fin:∀ (is:List Nat) (bx:Nat) (W:Wd),W.heap[bx]?=some (.cells #[Iv 0,Iv 0,Iv 0,Iv 0,Iv 0] 254 (0,0))->w0.heap.size<=bx->Bw w0 W ->
  rdA l is [11]=true->rdR l (is++[11]) 12=true->rdE l (is++[11]++[12])=true ->
  Left P l Q (fun W:Wd=>Bw w0 W) 13 2 (lwd l is) ((((((A.put (some t) (Pt bx)).put o5.dst v5).put o6.dst v6).put o7.dst v7).put o8.dst v8).put o9.dst v9) W:=fun is bx W hz g2 hW i1 i2 i3=>by
  obtain⟨⟨T,s,x,j1,j2⟩,j3⟩:=h11 bx W _ hz rfl;refine ED i1 e11 q11 fun _=>Ks j1 j2 ⟨Kt hW g2 N,?_⟩
  refine BX i2 e12 q12 (fun W _=>j3 W) ?_;exact FA i3 (hf bx _ g2 (Kt hW g2 N) (Pd hz N))
 refine Ku s0 e5 e10 q5 q10 (fun _=>?_) (fun _=>?_)
 ·obtain⟨x,hx⟩:∃ x,A.put (some t) x=A:=⟨_,Pf A t⟩;rw[<- hx];refine CY (h5 x w).1 (c5 w hw) ?_;rintro W rfl;refine⟨hw,Ku s1 e6 e10 q6 q10 (fun _=>?_) (fun _=>?_)⟩
  ·refine CY (h5 x w).2 (c6 w hw) fun W hW=>?_
   have g1:=hw.trans (hW.mono hw.size);refine⟨g1,?_⟩;refine BX p7 e7 q7 (fun W _=>(h7 x W _ rfl).1) ?_;refine BX p8 e8 q8 (fun W _=>(h7 x W _ rfl).2.1) ?_;refine BX p9 e9 q9 (fun W _=>(h7 x W _ rfl).2.2) ?_;have g0:=g1.trans ((Ah W Dn).mono g1.size);refine ED p10 e10 q10 fun _=>CW (h10 _ W) ⟨g0,?_⟩
   rw[ht,c9p];exact fin _ _ _ (Vv W _) g1.size g0 p11 p12 p13
  ·have g0:=hw.trans ((Ah w Dn).mono hw.size);refine CW (h10 _ w) ⟨g0,?_⟩;rw[ht,c5p];have hz:=Vv w Dn;have g2:w0.heap.size<=w.heap.size:=hw.size
   generalize w.alloc Dn=u at g0 hz ⊢
   generalize w.heap.size=bx at hz g2 ⊢
   refine ED u6 e6 q6 fun _=>CY (h5 _ u).2 (c6 u g0) fun W hW=>?_
   have g1:=g0.trans (hW.mono g0.size);refine⟨g1,?_⟩;refine BX u7 e7 q7 (fun W _=>(h7 _ W _ rfl).1) ?_;refine BX u8 e8 q8 (fun W _=>(h7 _ W _ rfl).2.1) ?_;refine BX u9 e9 q9 (fun W _=>(h7 _ W _ rfl).2.2) ?_;exact fin _ bx W ((hW.block _ (Vr.1 hz).1).trans hz) g2 g1 u11 u12 u13
 ·have g0:=hw.trans ((Ah w Dn).mono hw.size);refine CW (h10 _ w) ⟨g0,?_⟩;rw[ht];have hz:=Vv w Dn;have g2:w0.heap.size<=w.heap.size:=hw.size
  generalize w.alloc Dn=u at g0 hz ⊢
  generalize w.heap.size=bx at hz g2 ⊢
  refine ED k5 e5 q5 fun _=>CY (h5 _ u).1 (c5 u g0) ?_
  rintro W rfl;refine⟨g0,?_⟩;refine ED k6 e6 q6 fun _=>CY (h5 _ u).2 (c6 u g0) fun W hW=>?_
  have g1:=g0.trans (hW.mono g0.size);refine⟨g1,?_⟩;refine BX k7 e7 q7 (fun W _=>(h7 _ W _ rfl).1) ?_;refine BX k8 e8 q8 (fun W _=>(h7 _ W _ rfl).2.1) ?_;refine BX k9 e9 q9 (fun W _=>(h7 _ W _ rfl).2.2) ?_;exact fin _ bx W ((hW.block _ (Vr.1 hz).1).trans hz) g2 g1 k11 k12 k13
end
theorem DR {o:Own}{s:A4}(h:Ao o w sb d s)(hlt:Ac o w)(f:Nat)(hf:f<eMax) :
 Cl 198 #[Pt sb,Iv f] w (Bl (.bool (decide (enode f=0)||d.pool.tk (enode f))) w):=by
 obtain⟨c0,c1,c2,c3,c4,f0⟩:=cells5 h.blk;have lsb:sb<w.heap.size:=Af c0;have hz:(0:Int)<=f:=by omega
 have g3:Hq (∀ W:Wd,Bw w W->W.cell? (Aw sb 1)=some (Pt s.pb)):=Hd (fun W hb=>(hb.cell (p:=Aw sb 1) lsb).trans c1);have g1:Hq (∀ W:Wd,Bw w W->Cl 228 #[Pt s.pb,Iv (enode f:Nat)] W (Bl (.tuple #[An (d.pool.has (enode f)),.bool (d.pool.tk (enode f))]) W)) :=
  Hd (fun W hb=>CX o s.pb d.pool (enode f) W (h.pool.below hb hlt) (hlt.mono hb.size))
 have HN:=Hd (fun W=>BE f W hf);obtain⟨N,hN⟩:=Ex (d.pool.has (enode f));obtain⟨B,hB⟩:=Ex (d.pool.tk (enode f));obtain⟨k,hk⟩:=Ex (enode f);rw[<- hN,<- hB,<- hk] at g1;rw[<- hk] at HN;rw[<- hB,<- hk];obtain⟨z,g0⟩:=Ex (decide (k=0):Bool);have g5:(((k:Nat):Int) == 0)=z:=by rw[g0];exact Kr k
 rw[<- g0];clear h hlt c0 c1 c2 c3 c4 f0 hN hB hk hf g0
 go_enter func198,ntmps198
 go_upto_region 3 with fail;refine D6 (w0:=w) (N:=N) (v0:=Pt sb) (v1:=Pt sb) (v2:=.pointer (some (Aw sb 1))) (v3:=Pt s.pb) (v4:=Iv f) (v5:=Iv k) (v6:=.tuple #[An N,.bool B]) (v7:=.tuple #[An N,.bool B]) (v8:=An N) (v9:=.bool B) (v12:=.bool B) rfl (by kernel_rfl) (by kernel_rfl) ⟨⟨rfl,rfl,rfl,rfl,rfl,rfl,rfl⟩,rfl,rfl,rfl,rfl,rfl,rfl⟩ rfl (by decide) (Am w 1) (fun W _=>HN.o W) (fun W hb=>g1.o W hb) (fun W hb=>?_) (fun x W=>?_) (fun x W X hX=>?_) (fun a W=>?_) (fun bx W Y hz hY=>?_) (fun bx W3 g6 g2 g4=>?_)
 . have g7:=g3.o W hb;simp only[Ab];refine⟨?_,?_,?_,?_,?_⟩<;>go_simp
 . simp only[Ab];refine⟨?_,?_⟩<;>go_simp
 . subst hX;simp only[Ab];unfold An;refine⟨?_,?_,?_⟩<;>go_simp
 . go_simp
 . subst hY;obtain⟨e0,e1,e2,e3,e4,fz⟩:=cells5 hz;simp only[Ab];unfold An;refine⟨⟨_,_,_,rfl,Dj (k:=0) fz e0 e1 e2 e3 e4 _ _ _ _ _⟩,fun W=>?_⟩;go_simp
 simp only[Ab];unfold An;go_wp2_with fail;refine(HN.o _).mono ?_;rintro x w' ⟨rfl,rfl⟩;cases z
 all_goals go_wp2_with fail
 all_goals go_ret
 all_goals exact⟨rfl,g2⟩
theorem Ph {o:Own}{s:A4}(h:Ao o w sb d s)(hlt:Ac o w)(f:Nat)(hf:f<eMax)(lv:Int)(hbig:d.level.length<1000000) :
 Cl 245 #[Pt sb,Iv f,Iv lv] w (Bl (.bool (decide (enode f=0)||(d.pool.tk (enode f)&&decide (lv<d.levelOf (d.pool.has (enode f)).v)))) w):=by
 obtain⟨c0,c1,c2,c3,c4,f0⟩:=cells5 h.blk;have lsb:sb<w.heap.size:=Af c0;have g5:Hq (∀ W:Wd,Bw w W->W.cell? (Aw sb 1)=some (Pt s.pb)):=Hd (fun W hb=>(hb.cell (p:=Aw sb 1) lsb).trans c1);have g2:Hq (∀ W:Wd,Bw w W->Cl 228 #[Pt s.pb,Iv (enode f:Nat)] W (Bl (.tuple #[An (d.pool.has (enode f)),.bool (d.pool.tk (enode f))]) W)) :=
  Hd (fun W hb=>CX o s.pb d.pool (enode f) W (h.pool.below hb hlt) (hlt.mono hb.size))
 have g3:Hq (∀ W:Wd,Bw w W->Cl 142 #[Pt sb,Iv ((d.pool.has (enode f)).v:Nat)] W (Sm (Iv (d.levelOf (d.pool.has (enode f)).v)) W)) :=
  Hd (fun W hb=>GR (h.below hlt hb) _ hbig)
 have HN:=Hd (fun W=>BE f W hf);obtain⟨N,hN⟩:=Ex (d.pool.has (enode f));obtain⟨B,hB⟩:=Ex (d.pool.tk (enode f));obtain⟨k,hk⟩:=Ex (enode f);rw[<- hN] at g2 g3;rw[<- hB,<- hk] at g2;rw[<- hk] at HN;rw[<- hB,<- hN,<- hk];obtain⟨M,hM⟩:=Ex (d.levelOf N.v);rw[<- hM] at g3 ⊢;obtain⟨z,g1⟩:=Ex (decide (k=0):Bool);have g6:(((k:Nat):Int) == 0)=z:=by rw[g1];exact Kr k
 rw[<- g1];clear h hlt c0 c1 c2 c3 c4 f0 hN hB hk hf g1 hM
 go_enter func245,ntmps245
 go_upto_region 1 with fail;refine D6 (w0:=w) (N:=N) (v0:=Pt sb) (v1:=Pt sb) (v2:=.pointer (some (Aw sb 1))) (v3:=Pt s.pb) (v4:=Iv f) (v5:=Iv k) (v6:=.tuple #[An N,.bool B]) (v7:=.tuple #[An N,.bool B]) (v8:=An N) (v9:=.bool B) (v12:=.bool B) rfl (by kernel_rfl) (by kernel_rfl) ⟨⟨rfl,rfl,rfl,rfl,rfl,rfl,rfl⟩,rfl,rfl,rfl,rfl,rfl,rfl⟩ rfl (by decide) (Am w 1) (fun W _=>HN.o W) (fun W hb=>g2.o W hb) (fun W hb=>?_) (fun x W=>?_) (fun x W X hX=>?_) (fun a W=>?_) (fun bx W Y hz hY=>?_) (fun bx W3 g7 g0 g4=>?_)
 . have g8:=g5.o W hb;simp only[Ab];refine⟨?_,?_,?_,?_,?_⟩<;>go_simp
 . simp only[Ab];refine⟨?_,?_⟩<;>go_simp
 . subst hX;simp only[Ab];unfold An;refine⟨?_,?_,?_⟩<;>go_simp
 . go_simp
 . subst hY;obtain⟨e0,e1,e2,e3,e4,fz⟩:=cells5 hz;simp only[Ab];unfold An;refine⟨⟨_,_,_,rfl,Dj (k:=0) fz e0 e1 e2 e3 e4 _ _ _ _ _⟩,fun W=>?_⟩;go_simp
 simp only[Ab];unfold An;obtain⟨y0,y1,y2,y3,y4,yz⟩:=cells5 g4;go_wp2_with fail;refine(HN.o _).mono ?_;rintro x w' ⟨rfl,rfl⟩;cases z
 ·cases B
  . go_wp2_with fail;go_ret;exact⟨rfl,g0⟩
  . go_wp2_with fail;refine(g3.o _ g0).mono ?_;rintro x w' ⟨rfl,rfl⟩;go_wp2_with fail;go_ret;exact⟨rfl,g0⟩
 . go_wp2_with fail;go_ret;exact⟨rfl,g0⟩
theorem BI {f:FuncId}
 (h:Calls P f args (w.drewN n) fun e w'=>e=.returned v/\w.drewN n=w'):Calls P f args (w.drewN n) fun e w''=>e=.returned v/\∃ m,w''=w.drewN m :=
 h.mono fun _ _ ⟨he,hm⟩=>⟨he,n,hm.symm⟩
theorem GU {fn:Func}{t u v x:Tmp}(h:fn.results=#[.tmp t,.tmp u,.tmp v,.tmp x])(tmps:Array Value)(P:Program)(w:Wd) :
 (results fn tmps).run P w=.ok (.tuple #[tmps.getD t undef,tmps.getD u undef,tmps.getD v undef,tmps.getD x undef]) w:=by
 simp[results,h]
theorem Kv {o:Own}{s:A4}(h:Ao o w sb d s)(hlt:Ac o w)(f:Nat)(hf:f<eMax)(hlo:(d.pool.has (enode f)).lo<eMax)(hhi:(d.pool.has (enode f)).hi<eMax) :
 Cl 175 #[Pt sb,Iv f] w (Bl (if d.pool.tk (enode f)=true then .tuple #[Iv (d.pool.has (enode f)).v,Iv (eflip (d.pool.has (enode f)).lo (eneg f):Nat),Iv (eflip (d.pool.has (enode f)).hi (eneg f):Nat),.bool true] else .tuple #[Iv (-1),Iv 0,Iv 0,.bool false]) w):=by
 obtain⟨c0,c1,c2,c3,c4,f0⟩:=cells5 h.blk;have lsb:sb<w.heap.size:=Af c0;have g6:Hq (∀ W:Wd,Bw w W->W.cell? (Aw sb 1)=some (Pt s.pb)):=Hd (fun W hb=>(hb.cell (p:=Aw sb 1) lsb).trans c1);have g2:Hq (∀ W:Wd,Bw w W->Cl 228 #[Pt s.pb,Iv (enode f:Nat)] W (Bl (.tuple #[An (d.pool.has (enode f)),.bool (d.pool.tk (enode f))]) W)) :=
  Hd (fun W hb=>CX o s.pb d.pool (enode f) W (h.pool.below hb hlt) (hlt.mono hb.size))
 have hz:(0:Int)<=f:=by omega
 have HG:=Hd (fun W=>E5 f W hf);have g0:=Hd (fun W b=>Cw (d.pool.has (enode f)).lo b W hlo);have g1:=Hd (fun W b=>Cw (d.pool.has (enode f)).hi b W hhi);have HN:=Hd (fun W=>BE f W hf);obtain⟨N,hN⟩:=Ex (d.pool.has (enode f));obtain⟨B,hB⟩:=Ex (d.pool.tk (enode f));obtain⟨k,hk⟩:=Ex (enode f);rw[<- hN] at g2 g0 g1;rw[<- hB,<- hk] at g2;rw[<- hk] at HN;rw[<- hB,<- hN];obtain⟨g,hg⟩:=Ex (eneg f:Bool);rw[<- hg] at HG ⊢;have g0:=Hd (fun W=>g0.o W g);have g1:=Hd (fun W=>g1.o W g);obtain⟨A,hA⟩:=Ex (eflip N.lo g);obtain⟨C,hC⟩:=Ex (eflip N.hi g);rw[<- hA] at g0 ⊢;rw[<- hC] at g1 ⊢;obtain⟨RV,g3⟩:=Ex ((if B=true then .tuple #[Iv N.v,Iv (A:Nat),Iv (C:Nat),.bool true] else .tuple #[Iv (-1),Iv 0,Iv 0,.bool false]):Value);rw[<- g3];have g5:=Hd g3;clear h hlt c0 c1 c2 c3 c4 f0 hN hB hk hf hg hA hC hlo hhi g3
 go_enter func175,ntmps175
 go_upto_region 3 with fail;refine D6 (w0:=w) (N:=N) (v0:=Pt sb) (v1:=Pt sb) (v2:=.pointer (some (Aw sb 1))) (v3:=Pt s.pb) (v4:=Iv f) (v5:=Iv k) (v6:=.tuple #[An N,.bool B]) (v7:=.tuple #[An N,.bool B]) (v8:=An N) (v9:=.bool B) (v12:=.bool B) rfl (by kernel_rfl) (by kernel_rfl) ⟨⟨rfl,rfl,rfl,rfl,rfl,rfl,rfl⟩,rfl,rfl,rfl,rfl,rfl,rfl⟩ rfl (by decide) (Am w 1) (fun W _=>HN.o W) (fun W hb=>g2.o W hb) (fun W hb=>?_) (fun x W=>?_) (fun x W X hX=>?_) (fun a W=>?_) (fun bx W Y hz hY=>?_) (fun bx W3 g8 g4 g7=>?_)
 . have g9:=g6.o W hb;simp only[Ab];refine⟨?_,?_,?_,?_,?_⟩<;>go_simp
 . simp only[Ab];refine⟨?_,?_⟩<;>go_simp
 . subst hX;simp only[Ab];unfold An;refine⟨?_,?_,?_⟩<;>go_simp
 . go_simp
 . subst hY;obtain⟨e0,e1,e2,e3,e4,fz⟩:=cells5 hz;simp only[Ab];unfold An;refine⟨⟨_,_,_,rfl,Dj (k:=0) fz e0 e1 e2 e3 e4 _ _ _ _ _⟩,fun W=>?_⟩;go_simp
 simp only[Ab];unfold An;obtain⟨y0,y1,y2,y3,y4,yz⟩:=cells5 g7;clear HN g2 g6;cases B
 . go_wp2_with fail;refine VR (GU rfl _ _ _) rfl ⟨?_,g4⟩;rw[g5.o];rfl
 ·go_upto_region 6 with fail
  go_quiet ((first|(with_reducible exact BI (HG.o _))|(with_reducible exact BI (g0.o _))|(with_reducible exact BI (g1.o _))))
  go_wp2_with fail;refine VR (GU rfl _ _ _) rfl ⟨?_,Cg g4 _⟩;rw[g5.o];rfl
def bnOf (r:RN):BN:=⟨r.v,r.lo,r.hi⟩
def Aa (d:Ae):Nat->Option BN:=fun i=>(d.pool.get i).map bnOf
def Ai (d:Ae):Nat->Nat:=fun i=>d.counts.getD i 0
def Ae.cd (d:Ae)(cs:List Nat)(dd:Nat):Ae:={ d with counts:=cs,dead:=dd }
theorem BJ {b:BN}(h:Aa d i=some b):d.pool.tk i=true/\d.pool.has i=d.pool.nd i/\bnOf (d.pool.has i)=b:=by
 unfold Aa Ad.get at h
 by_cases e:d.pool.tk i=true
 . rw[Vw e] at h;refine⟨e,by unfold Ad.has;rw[Vw e],?_⟩;unfold Ad.has;rw[Vw e];simpa using h
 . rw[Vs e] at h;cases h
theorem GV (h:Aa d i=none):d.pool.tk i=false:=by
 unfold Aa Ad.get at h
 by_cases e:d.pool.tk i=true
 . rw[Vw e] at h;cases h
 . simpa using e
structure Acy (N:Nat->Option BN)(rk:Nat->Nat):Prop where
 none0:N 0=none
 okLo:∀ i b,N i=some b->okE N b.lo
 okHi:∀ i b,N i=some b->okE N b.hi
 ltLo:∀ i b c,N i=some b->N (b.lo/2)=some c->rk (b.lo/2)<rk i
 ltHi:∀ i b c,N i=some b->N (b.hi/2)=some c->rk (b.hi/2)<rk i
structure AD (d:Ae)(ext:Nat->Int):Prop where
 cnt:Cnt d.pool.at_.length (Aa d) (Ai d) ext
 dead:(d.dead:Int)=Ba d.pool.at_.length (Aa d) (Ai d)
 has:∀ i b,Aa d i=some b->i<d.counts.length
theorem EE {f:Nat->Int}{B:Int}:∀ (k:Nat),(∀ i,i<k->f i<=B)->Ag k f<=k*B
 | 0,_=>by simp[Ag]
 | k+1,h=>by
   have ih:=EE k (fun i hi=>h i (by omega));have h1:=h k (by omega);have:Ag (k+1) f=Ag k f+f k:=rfl;rw[this];have e:((k+1:Nat):Int)*B=k*B+B:=by rw[Int.natCast_add,Int.add_mul];simp
   omega
theorem Pi (N:Nat->Option BN)(c:Nat->Nat)(x p:Nat):from1 N c x p<=2:=by
 unfold from1 Ck toE;split
 ·split
  . split<;>split<;>omega
  . omega
 . omega
theorem Cnt.le {c:Nat->Nat}{ext:Nat->Int}(h:Cnt k N c ext){b:BN}(hx:N x=some b):(c x:Int)<=ext x+2*k:=by
 have h1:=h.eq x b hx;have h2:=EE (f:=from1 N c x) (B:=2) k (fun i _=>Pi N c x i);omega
theorem Do {v dd:Nat}(hx:x<d.counts.length):Ai (d.cd (d.counts.set x v) dd)=setC (Ai d) x v:=by
 funext i;unfold Ai setC Ae.cd;dsimp only
 by_cases e:i=x
 . subst e;simp[List.getD,hx]
 . simp only[List.getD,VY,Vs (Wn e),Vs e]
section
variable {ext:Nat->Int}{b:BN}
theorem AD.congr (h:AD d ext){ext':Nat->Int}(he:∀ x b,Aa d x=some b->ext' x=ext x):AD d ext':=⟨h.cnt.congr he,h.dead,h.has⟩
theorem AD.moreLive (h:AD d ext)(hx:Aa d x=some b)(hc:0<Ai d x):AD (d.cd (d.counts.set x (Ai d x+1)) d.dead) (bump ext x 1):=by
 have hl:=h.has x b hx;refine⟨?_,?_,fun i b' hb=>by simpa [Ae.cd] using h.has i b' hb⟩
 . rw[Do hl];exact h.cnt.moreLive hc
 ·rw[Do hl]
  show (d.dead:Int)=Ba d.pool.at_.length (Aa d) _
  rw[Fu hx (h.cnt.lt x b hx),<- h.dead,Vs (by omega),Vs (by omega)];omega
theorem AD.moreDead (h:AD d ext)(hx:Aa d x=some b)(hc:Ai d x=0):0<d.dead/\AD (d.cd (d.counts.set x 1) (d.dead-1)) (addE (addE (bump ext x 1) b.lo (-1)) b.hi (-1)):=by
 have hl:=h.has x b hx;have hk:=h.cnt.lt x b hx;have h1:=Fu (c:=Ai d) (v:=1) hx hk;rw[Vs (by omega),Vw hc,<- h.dead] at h1;have h2:0<=Ba d.pool.at_.length (Aa d) (setC (Ai d) x 1):=Fq _ fun i _=>JT _ _ i
 refine⟨by omega,?_,?_,fun i b' hb=>by simpa [Ae.cd] using h.has i b' hb⟩
 . rw[Do hl];exact h.cnt.moreDead hx hc
 ·rw[Do hl]
  show ((d.dead-1:Nat):Int)=Ba d.pool.at_.length (Aa d) _
  rw[h1];omega
theorem AD.lessLive (h:AD d ext)(hx:Aa d x=some b)(hc:1<Ai d x):AD (d.cd (d.counts.set x (Ai d x-1)) d.dead) (bump ext x (-1)):=by
 have hl:=h.has x b hx;refine⟨?_,?_,fun i b' hb=>by simpa [Ae.cd] using h.has i b' hb⟩
 . rw[Do hl];exact h.cnt.lessLive hc
 ·rw[Do hl]
  show (d.dead:Int)=Ba d.pool.at_.length (Aa d) _
  rw[Fu hx (h.cnt.lt x b hx),<- h.dead,Vs (by omega),Vs (by omega)];omega
theorem AD.lessDies (h:AD d ext)(hx:Aa d x=some b)(hc:Ai d x=1):AD (d.cd (d.counts.set x 0) (d.dead+1)) (addE (addE (bump ext x (-1)) b.lo 1) b.hi 1):=by
 have hl:=h.has x b hx;have hk:=h.cnt.lt x b hx;have h1:=Fu (c:=Ai d) (v:=0) hx hk;rw[Vw rfl,Vs (by omega),<- h.dead] at h1;refine⟨?_,?_,fun i b' hb=>by simpa [Ae.cd] using h.has i b' hb⟩
 . rw[Do hl];exact h.cnt.lessDies hx hc
 ·rw[Do hl]
  show ((d.dead+1:Nat):Int)=Ba d.pool.at_.length (Aa d) _
  rw[h1];omega
end
def RCnt (r:Role):Prop:=r=.store\/r=.counts
section
variable {o:Own}{s:A4}
theorem Ao.countsAt (h:Ao o w sb d s)(hx:x<d.counts.length):∃ gc cap,s.vc=.slice (some (Av gc)) d.counts.length cap/\o gc=some .counts/\gc≠sb/\d.counts.length<=cap/\cap<=maxLen/\(∀ k,w.frozen? (Aw gc k)=false) /\
 (∀ k,k<d.counts.length->w.cell? (Aw gc k)=some (Iv (Ai d k:Nat))):=by
 obtain⟨gc,cap,hv,ho,h1,h2⟩:=h.counts.shape (by omega);have hr:=h.counts;rw[hv] at hr;refine⟨gc,cap,hv,ho,fun e=>(by subst e;rw[h.own] at ho;cases ho),h1,h2,hr.frozen,fun k hk=>?_⟩;rw[hr.cell k (by simpa using hk),WP,VA hk];simp[nat64,Ai,List.getD,hk]
theorem Ao.keepBut (h:Ao o w sb d s)(hg:o g=some .counts\/o g=some .store)(hk:∀ k,k≠g->w'.heap[k]?=w.heap[k]?)
 (hb:∃ dd cs,w'.heap[sb]?=some (.cells #[Pt s.lb,Pt s.pb,s.vt,s.vc,Iv (dd:Nat)] 150 (0,0))/\RowR o w' .counts 3 1 s.vc cs.length (cs.map nat64)/\d'=d.cd cs dd):Ao o w' sb d' s:=by
 obtain⟨dd,cs,h1,h2,rfl⟩:=hb;have g0:∀ {b r},o b=some r->r ≠ .counts->r ≠ .store->b≠g:=fun hb hr g1 e=>by subst e;rcases hg with hg|hg<;>rw[hb] at hg<;>cases hg<;>contradiction
 exact⟨h.own,h.ownl,h1,(hk _ (g0 h.ownl (by simp) (by simp))).trans h.lev,h.vars.keep (fun b hb=>hk _ (g0 hb (by simp) (by simp))) (fun _ h=>h),h.level.keep (fun b hb=>hk _ (g0 hb (by simp) (by simp))) (fun _ h=>h),
  h.pool.keep (fun b r hb hr=>hk _ (g0 hb (by rcases hr with rfl|rfl|rfl|rfl<;>simp) (by rcases hr with rfl|rfl|rfl|rfl<;>simp))) (fun _ _ h=>h),
  h.tabs.keep (fun b hb=>hk _ (g0 hb (by simp) (by simp))) (fun _ h=>h),
  fun v hv=>(h.tab v hv).keep (fun b r hb hr=>hk _ (g0 hb (by rcases hr with rfl|rfl<;>simp) (by rcases hr with rfl|rfl<;>simp))) (fun _ _ h=>h),h2,h.len,h.tlen⟩
theorem Ao.setCount (h:Ao o w sb d s){gc:Nat}(hv:s.vc=.slice (some (Av gc)) d.counts.length cap)(hne:gc≠sb)(x v:Nat):Ao o (w.setCell (Aw gc x) (Iv v)) sb (d.cd (d.counts.set x v) d.dead) s:=by
 have hr:=h.counts;rw[hv] at hr;refine h.keepBut (g:=gc) (.inl hr.owner) (fun k hk=>Ay hk _) ⟨d.dead,_,(Ay (Wn hne) _).trans h.blk,?_,rfl⟩;have:=hr.stored x (Iv v);rw[hv,VQ,X9];exact this
theorem Ao.setDead (h:Ao o w sb d s)(hlt:Ac o w)(dd:Nat):Ao o (w.setCell (Aw sb 4) (Iv dd)) sb (d.cd d.counts dd) s:=by
 refine h.keepBut (g:=sb) (.inr h.own) (fun k hk=>Ay hk _) ⟨dd,d.counts,?_,?_,rfl⟩
 . exact A2 (k:=4) h.blk _
 . exact h.counts.keep (fun b hb=>Ay (fun e=>by have e':b=sb:=e;subst e';rw[h.own] at hb;cases hb) _) (fun _ h=>h)
end
theorem DS {fn:Func}(h:fn.results=#[])(tmps:Array Value)(P:Program)(w:Wd):(results fn tmps).run P w=.ok (.tuple #[]) w:=by simp[results,h]
def BB (o:Own)(w:Wd)(sb:Nat)(d:Ae)(s:A4)(rk:Nat->Nat)(m:Nat)(less:Bool)(ext':Nat->Int)(e:Ending)(w':Wd):Prop :=
 ∃ cs dd,e=.returned (.tuple #[])/\Ao o w' sb (d.cd cs dd) s/\AD (d.cd cs dd) ext'/\cs.length=d.counts.length/\(∀ i,m<=rk i->cs.getD i 0=d.counts.getD i 0)/\(less=true->∀ i,cs.getD i 0<=d.counts.getD i 0)/\Chg RCnt o o w w'
structure EG (o:Own)(w:Wd)(sb:Nat)(d:Ae)(s:A4)(rk:Nat->Nat)(ext:Nat->Int)(f:Nat)(m:Nat):Prop where
 st:Ao o w sb d s
 lt:Ac o w
 acy:Acy (Aa d) rk
 ok:okE (Aa d) f
 live:AD d ext
 top:∀ y b,Aa d y=some b->ext y+toE f y<=1099511627776
 low:f/2=0\/rk (f/2)<m
structure EH (o:Own)(w:Wd)(sb:Nat)(d:Ae)(s:A4)(rk:Nat->Nat)(ext:Nat->Int)(f:Nat)(m:Nat):Prop where
 st:Ao o w sb d s
 lt:Ac o w
 acy:Acy (Aa d) rk
 ok:okE (Aa d) f
 live:AD d ext
 top:∀ y b,Aa d y=some b->Ai d y<=2199023255552
 pos:∀ y b,Aa d y=some b->0<=ext y-toE f y
 low:f/2=0\/rk (f/2)<m
theorem Ao.tk_lt {o:Own}{w:Wd}{sb:Nat}{d:Ae}{s:A4}(h:Ao o w sb d s){i:Nat}{b:BN}(hi:Aa d i=some b):0<i/\i<d.pool.at_.length/\d.pool.at_.length<=1048577:=by
 have h1:=h.pool.tk_lt (BJ hi).1;have h2:=h.pool.top;have h3:=h.pool.room;omega
theorem Ao.edge_lt {o:Own}{s:A4}(h:Ao o w sb d s)(hf:okE (Aa d) f):f<2097156:=by
 rcases hf with h0|⟨b,hb⟩
 . omega
 . have:=h.tk_lt hb;omega
theorem Kw {ext:Nat->Int}:addE ext f 1=bump ext (f/2) 1:=by
 funext y;unfold addE bump toE
 by_cases e:f/2=y
 . subst e;simp
 . simp[e,Wn e]
theorem Kx {ext:Nat->Int}:addE ext f (-1)=bump ext (f/2) (-1):=by
 funext y;unfold addE bump toE
 by_cases e:f/2=y
 . subst e;simp
 . simp[e,Wn e]
theorem Pj {o:Own}{s:A4}{ext:Nat->Int}{m:Nat}(h:EG o w sb d s rk ext f m){b:BN}(hx:Aa d (enode f)=some b)(hc:0<Ai d (enode f)) :
 Cl 223 #[Pt sb,Iv f] w (BB o w sb d s rk m false (addE ext f 1)):=by
 have gk:=h.st.edge_lt h.ok;have hf:f<eMax:=by unfold eMax;omega
 have g5:=h.live.has _ _ hx;obtain⟨gc,cap,hv,ga,g9,gi,gf,gd,g4⟩:=h.st.countsAt g5;obtain⟨c0,c1,c2,c3,c4,f0⟩:=cells5 h.st.blk;rw[hv] at c3;have ge:=g4 _ g5;have gj:=gd (enode f);have gr:=h.live.cnt.le hx;have g6:=h.top _ _ hx;rw[show toE f (enode f)=1 from DN f] at g6;have gl:=h.st.tk_lt hx;have g8:=h.st.tk_lt hx;have g3:Hq (∀ i,m<=rk i->(d.counts.set (enode f) (Ai d (enode f)+1)).getD i 0=d.counts.getD i 0):=fun i hi=>by
  have:enode f≠i:=by
   rintro rfl;rcases h.low with h0|h0
   . have:enode f=0:=h0;omega
   . have e:f/2=enode f:=rfl;rw[e] at h0;omega
  simp only[List.getD,VY,Vs this]
 have g7:Hq (false=true->∀ i,(d.counts.set (enode f) (Ai d (enode f)+1)).getD i 0<=d.counts.getD i 0):=fun e=>(by cases e)
 have g0:Hq (Ao o (w.setCell ⟨gc,enode f,none⟩ (Iv ((Ai d (enode f)+1:Nat):Int))) sb (d.cd (d.counts.set (enode f) (Ai d (enode f)+1)) d.dead) s/\AD (d.cd (d.counts.set (enode f) (Ai d (enode f)+1)) d.dead) (addE ext f 1)) :=
  ⟨h.st.setCount hv g9 _ _,by rw[Kw];exact h.live.moreLive hx hc⟩
 have g1:=Hd ((Chg.refl RCnt o w).setCell (p:=⟨gc,enode f,none⟩) ga (.inr rfl) (Iv ((Ai d (enode f)+1:Nat):Int)));rw[show ((Ai d (enode f)+1:Nat):Int)=(Ai d (enode f):Nat)+1 from by omega] at g0 g1;have g2:((enode f:Nat):Int)≠0:=by have:=g8.1;omega
 have HN:=Hd (fun W=>BE f W hf);have gm:sb≠gc:=fun e=>g9 e.symm
 have gh:((enode f:Nat):Int)<d.counts.length:=by omega
 obtain⟨k,hk⟩:=Ex (enode f);obtain⟨c,gg⟩:=Ex (Ai d (enode f));have go:c<=2199023255552:=by omega
 have gu:0<c:=by omega
 rw[<- gg] at ge g0 g1 g3 g7;rw[<- hk] at ge gj g0 g1 g2 HN gh g3 g7;have gq:((k:Int) == 0)=false:=by simpa using g2
 have gp:0<k:=by omega
 have gn:d.counts.length<=9223372036854775807:=by unfold maxLen at gf;omega
 have gt:(1:Int)<(c:Int)+1:=by omega
 clear h hx hc hv ga gi gf gd g4 hk gg g6 g8 g2 g5 gk hf
 go_enter func223,ntmps223
 go_wp2_with fail;refine(HN.o _).mono ?_;rintro x w' ⟨rfl,rfl⟩;go_wp2_with fail;refine VR (DS rfl _ _ _) rfl ⟨_,_,rfl,g0.o.1,g0.o.2,by simp,g3.o,(fun e=>by first|exact absurd e (by decide)|exact g7.o (by simp)),g1.o⟩
theorem Pk {o:Own}{s:A4}{ext:Nat->Int}{m:Nat}(h:EG o w sb d s rk ext f m)(hx:enode f=0) :
 Cl 223 #[Pt sb,Iv f] w (BB o w sb d s rk m false (addE ext f 1)):=by
 have hf:f<eMax:=by have:=h.st.edge_lt h.ok;unfold eMax;omega
 have g0:Hq (BB o w sb d s rk m false (addE ext f 1) (.returned (.tuple #[])) w) :=
  ⟨d.counts,d.dead,rfl,h.st,h.live.congr (fun y b hb=>by
   have:y≠0:=by rintro rfl;rw[h.acy.none0] at hb;cases hb
   have e:f/2=0:=hx;simp[addE,toE,e,Wn this]),rfl,fun _ _=>rfl,fun _ _=>Vu _,Chg.refl _ _ _⟩
 have HN:=Hd (fun W=>BE f W hf);rw[hx] at HN;clear h hx hf
 go_enter func223,ntmps223
 go_wp2_with fail;refine(HN.o _).mono ?_;rintro x w' ⟨rfl,rfl⟩;go_wp2_with fail;refine VR (DS rfl _ _ _) rfl g0.o
theorem Pl {o:Own}{s:A4}{ext:Nat->Int}{m:Nat}(h:EG o w sb d s rk ext f (m+1)){b:BN}(hx:Aa d (enode f)=some b)(hc:Ai d (enode f)=0)
 (ih:∀ w d ext f,EG o w sb d s rk ext f m->Cl 223 #[Pt sb,Iv f] w (BB o w sb d s rk m false (addE ext f 1))) :
 Cl 223 #[Pt sb,Iv f] w (BB o w sb d s rk (m+1) false (addE ext f 1)):=by
 have gT:=h.st.edge_lt h.ok;have hf:f<eMax:=by unfold eMax;omega
 have gd:=h.live.has _ _ hx;obtain⟨gc,cap,hv,gu,gg,gP,gB,gv,g5⟩:=h.st.countsAt gd;obtain⟨c0,c1,c2,c3,c4,f0⟩:=cells5 h.st.blk;rw[hv] at c3;have gh:=g5 _ gd;have gw:=gv (enode f);have gq:=h.st.tk_lt hx;obtain⟨gy,gr⟩:=h.live.moreDead hx hc;have gA:d.dead<=1048577:=by
  have h1:=h.live.dead;have h2:=EE (f:=dead1 (Aa d) (Ai d)) (B:=1) d.pool.at_.length (fun i _=>by unfold dead1;split<;>first|omega|(split<;>omega));have h3:Ba d.pool.at_.length (Aa d) (Ai d)=Ag d.pool.at_.length (dead1 (Aa d) (Ai d)):=rfl;omega
 have gX:=Hd h.lt;have gn:∀ i,m+1<=rk i->(d.counts.set (enode f) 1).getD i 0=d.counts.getD i 0:=fun i hi=>by
  have:enode f≠i:=by
   rintro rfl;rcases h.low with h0|h0
   . have:enode f=0:=h0;omega
   . have e:f/2=enode f:=rfl;rw[e] at h0;omega
  simp only[List.getD,VY,Vs this]
 have gD:false=true->∀ i,(d.counts.set (enode f) 1).getD i 0<=d.counts.getD i 0:=fun e=>(by cases e)
 have gN:rk (enode f)<=m:=by
  rcases h.low with h0|h0
  . have:enode f=0:=h0;omega
  . have e:f/2=enode f:=rfl;rw[e] at h0;omega
 have g3:∀ e,(okE (Aa d) e)->(∀ c,Aa d (e/2)=some c->rk (e/2)<rk (enode f))->e/2=0\/rk (e/2)<m:=fun e ho hr=>by
  rcases ho with h0|⟨c,hc⟩
  . exact .inl h0
  . exact .inr (by have:=hr c hc;omega)
 have st1:Ao o (w.setCell ⟨gc,enode f,none⟩ (Iv ((1:Nat):Int))) sb (d.cd (d.counts.set (enode f) 1) d.dead) s:=h.st.setCount hv gg _ _;have g2:Ac o (w.setCell ⟨gc,enode f,none⟩ (Iv ((1:Nat):Int))):=h.lt.mono (by simp[World.setCell]);have st2:Ao o ((w.setCell ⟨gc,enode f,none⟩ (Iv ((1:Nat):Int))).setCell (Aw sb 4) (Iv ((d.dead-1:Nat):Int))) sb (d.cd (d.counts.set (enode f) 1) (d.dead-1)) s:=st1.setDead g2 _;have go:=Hd (((Chg.refl RCnt o w).setCell (p:=⟨gc,enode f,none⟩) gu (.inr rfl) (Iv ((1:Nat):Int))).setCell (p:=Aw sb 4) h.st.own (.inl rfl) (Iv ((d.dead-1:Nat):Int)));have g0:Ac o ((w.setCell ⟨gc,enode f,none⟩ (Iv ((1:Nat):Int))).setCell (Aw sb 4) (Iv ((d.dead-1:Nat):Int))):=g2.mono (by simp[World.setCell]);have gf:=BJ hx;have gU:∃ N,N=d.pool.has (enode f)/\N.lo=b.lo/\N.hi=b.hi:=⟨_,rfl,by rw[<- gf.2.2];rfl,by rw[<- gf.2.2];rfl⟩;have gx:addE (addE (addE (addE (bump ext (enode f) 1) b.lo (-1)) b.hi (-1)) b.lo 1) b.hi 1=addE ext f 1:=by
  funext y;have h1:=congrFun (Kw (ext:=ext) (f:=f)) y;have h2:enode f=f/2:=rfl;rw[h2,h1];simp only[addE];omega
 obtain⟨W2,gk⟩:∃ W,W=(w.setCell ⟨gc,enode f,none⟩ (Iv ((1:Nat):Int))).setCell (Aw sb 4) (Iv ((d.dead-1:Nat):Int)):=⟨_,rfl⟩;rw[<- gk] at st2 go g0;have gK:=Hd g0;have g1:Hq (∀ W:Wd,Bw W2 W->Cl 228 #[Pt s.pb,Iv (enode f:Nat)] W (Bl (.tuple #[An (d.pool.has (enode f)),.bool (d.pool.tk (enode f))]) W)) :=
  Hd (fun W hb=>CX o s.pb d.pool (enode f) W (st2.pool.below hb g0) (g0.mono hb.size))
 have h5:Hq (∀ W:Wd,Bw W2 W->W.cell? (Aw sb 1)=some (Pt s.pb)):=Hd (fun W hb=>(cells5 (st2.below g0 hb).blk).2.1);have gC:Hq (∀ W:Wd,Bw W2 W->Cl 223 #[Pt sb,Iv (b.lo:Nat)] W (BB o W sb (d.cd (d.counts.set (enode f) 1) (d.dead-1)) s rk m false (addE (addE (addE (bump ext (enode f) 1) b.lo (-1)) b.hi (-1)) b.lo 1))) :=
  Hd (fun W hb=>ih W _ _ b.lo ⟨st2.below g0 hb,g0.mono hb.size,h.acy,h.acy.okLo _ _ hx,gr,fun y q hq=>by
   have h1:=h.top y q hq;have h2:toE f y=if enode f=y then 1 else 0:=rfl
   have h3:=Cx b.lo y;have h4:=Cx b.hi y;simp only[addE,bump]
   by_cases e:y=enode f
   . rw[Vw e.symm] at h2;rw[Vw e];omega
   . rw[Vs (Wn e)] at h2;rw[Vs e];omega,g3 b.lo (h.acy.okLo _ _ hx) (fun c hc=>h.acy.ltLo _ _ c hx hc)⟩)
 have gF:Hq (∀ (W:Wd) (cs:List Nat) (dd:Nat),Ao o W sb ((d.cd (d.counts.set (enode f) 1) (d.dead-1)).cd cs dd) s->AD ((d.cd (d.counts.set (enode f) 1) (d.dead-1)).cd cs dd) (addE (addE (addE (bump ext (enode f) 1) b.lo (-1)) b.hi (-1)) b.lo 1)->(false=true->∀ i,cs.getD i 0<=(d.counts.set (enode f) 1).getD i 0)->Chg RCnt o o w W ->
  Cl 223 #[Pt sb,Iv (b.hi:Nat)] W (BB o W sb ((d.cd (d.counts.set (enode f) 1) (d.dead-1)).cd cs dd) s rk m false (addE ext f 1))) :=
  Hd (fun W cs dd hs hl gt gi=>by
   rw[<- gx]
   exact ih W _ _ b.hi ⟨hs,gX.o.mono gi.size,h.acy,h.acy.okHi _ _ hx,hl,fun y q hq=>by
    have h1:=h.top y q hq;have h2:toE f y=if enode f=y then 1 else 0:=rfl
    have h3:=Cx b.lo y;have h4:=Cx b.hi y;simp only[addE,bump]
    by_cases e:y=enode f
    . rw[Vw e.symm] at h2;rw[Vw e];omega
    . rw[Vs (Wn e)] at h2;rw[Vs e];omega,g3 b.hi (h.acy.okHi _ _ hx) (fun c hc=>h.acy.ltHi _ _ c hx hc)⟩)
 have gM:Hq (∀ (W:Wd) (cs:List Nat) (dd:Nat),Ao o W sb (d.cd cs dd) s->AD (d.cd cs dd) (addE ext f 1)->cs.length=(d.counts.set (enode f) 1).length->(∀ i,m+1<=rk i->cs.getD i 0=(d.counts.set (enode f) 1).getD i 0)->(false=true->∀ i,cs.getD i 0<=(d.counts.set (enode f) 1).getD i 0)->Chg RCnt o o w W ->
  BB o w sb d s rk (m+1) false (addE ext f 1) (.returned (.tuple #[])) W) :=
  fun W cs dd hs hl gI gO gt gi=>⟨cs,dd,rfl,hs,hl,by rw[gI];simp,fun i hi=>(gO i hi).trans (gn i hi),fun e i=>Vy (gt e i) (gD e i),gi⟩
 have g9:Hq (W2=(w.setCell ⟨gc,enode f,none⟩ (Iv 1)).setCell (Aw sb 4) (Iv ((d.dead:Int)-1))):=by
  show _=_
  rw[gk,show ((d.dead-1:Nat):Int)=(d.dead:Int)-1 from by omega];rfl
 have g4:((enode f:Nat):Int)≠0:=by have:=gq.1;omega
 have HN:=Hd (fun W=>BE f W hf);have gH:sb≠gc:=fun e=>gg e.symm
 have ga:((enode f:Nat):Int)<d.counts.length:=by omega
 obtain⟨N,hN,gl,gm⟩:=gU;rw[<- hN] at g1;rw[<- gl,<- gm] at gC gF;obtain⟨B,hB⟩:=Ex (d.pool.tk (enode f));rw[<- hB] at g1;rw[hc] at gh;obtain⟨k,hk⟩:=Ex (enode f);rw[<- hk] at gh gw g1 g4 HN ga g9;have gR:((k:Int) == 0)=false:=by simpa using g4
 have gQ:0<k:=by omega
 have gJ:d.counts.length<=9223372036854775807:=by unfold maxLen at gB;omega
 obtain⟨dn,gz⟩:∃ n,n=d.dead:=⟨_,rfl⟩;rw[<- gz] at c4 gA g9 gy;clear ih h hx hc hv gu gP gB gv g5 gq g4 gd gT hf gr st1 st2 g2 g0 gn gD gN g3 gk gx hN gl gm hB gz gf hk
 go_enter func223,ntmps223
 go_wp2_with fail;refine(HN.o _).mono ?_;rintro x w' ⟨rfl,rfl⟩;go_wp2_with fail;rw[<- g9.o];refine(g1.o W2 (VI _ _)).mono ?_;rintro x v2 ⟨rfl,g7⟩;unfold An;clear g9 c0 c1 c2 c3 c4 f0 gh gw HN gg gH ga gR gQ gJ gA gy;go_wp2_with fail;obtain⟨W3,g8⟩:∃ W,W=v2.alloc (.cells #[Iv N.id,Iv N.v,Iv N.lo,Iv N.hi,Iv N.refs] 254):=⟨_,rfl⟩;obtain⟨bx,g6⟩:=Ex v2.heap.size;have gS:W2.heap.size<=bx:=by rw[g6];exact g7.size
 have gj:Bw W2 W3:=by rw[g8];exact g7.alloc g7.size _
 have ge:W3.heap[bx]?=some (.cells #[Iv N.id,Iv N.v,Iv N.lo,Iv N.hi,Iv N.refs] 254 (0,0)):=by rw[g8,g6];exact Vv v2 _
 rw[<- g8];rw[<- g6];clear g8 g6 g7 g1 h5;refine(gC.o _ gj).mono ?_;rintro x w1 ⟨cs1,dd1,rfl,st1,lv1,len1,low1,le1,chg1⟩;have gp:=(chg1.alien (Vr.1 ge).1 (gK.o.none gS)).trans ge;obtain⟨z0,z1,z2,z3,z4,zz⟩:=cells5 gp;have gV:=Hd st1;have gY:=Hd lv1;have gZ:=Hd len1;have HW1:=Hd low1;have gE:=Hd le1;have gG:=Hd ((go.o.trans (Chg.of_below gj RCnt o)).trans chg1);clear st1 lv1 len1 low1 le1 chg1 ge gp gj;go_wp2_with fail;refine(gF.o w1 cs1 dd1 gV.o gY.o (fun e=>by first|exact absurd e (by decide)|exact gE.o (by simp)) gG.o).mono ?_;rintro x w2 ⟨cs2,dd2,rfl,st2,lv2,len2,low2,le2,chg2⟩;have gL:=Hd (gM.o w2 cs2 dd2 st2 lv2 (len2.trans gZ.o) (fun i hi=>(low2 i (by omega)).trans (HW1.o i (by omega))) (fun e i=>by first|exact absurd e (by decide)|exact Vy (le2 (by simp) i) (gE.o (by simp) i)) (gG.o.trans chg2));clear st2 lv2 len2 low2 le2 chg2;go_wp2_with fail;refine Xi (DS rfl _ _ _) rfl gL.o
theorem GW (o:Own)(sb:Nat)(s:A4)(rk:Nat->Nat):∀ (m:Nat) (w:Wd) (d:Ae) (ext:Nat->Int) (f:Nat),EG o w sb d s rk ext f m ->
 Cl 223 #[Pt sb,Iv f] w (BB o w sb d s rk m false (addE ext f 1))
 | m,w,d,ext,f,h=>by
   by_cases h0:enode f=0
   . exact Pk h h0
   ·obtain⟨b,hx⟩:∃ b,Aa d (enode f)=some b:=h.ok.resolve_left h0
    by_cases hc:0<Ai d (enode f)
    . exact Pj h hx hc
    ·cases m with
     | zero=>exact absurd (h.low.resolve_left h0) (by omega)
     | succ m=>exact Pl h hx (by omega) (GW o sb s rk m)
theorem Pm {o:Own}{s:A4}{ext:Nat->Int}{m:Nat}(h:EH o w sb d s rk ext f m){b:BN}(hx:Aa d (enode f)=some b)(hc:1<Ai d (enode f)) :
 Cl 226 #[Pt sb,Iv f] w (BB o w sb d s rk m true (addE ext f (-1))):=by
 have gk:=h.st.edge_lt h.ok;have hf:f<eMax:=by unfold eMax;omega
 have g4:=h.live.has _ _ hx;obtain⟨gc,cap,hv,g9,g8,gi,ge,ga,g5⟩:=h.st.countsAt g4;obtain⟨c0,c1,c2,c3,c4,f0⟩:=cells5 h.st.blk;rw[hv] at c3;have gd:=g5 _ g4;have gj:=ga (enode f);have gh:=h.top (enode f) _ hx;have g7:=h.st.tk_lt hx;have g3:Hq (∀ i,m<=rk i->(d.counts.set (enode f) (Ai d (enode f)-1)).getD i 0=d.counts.getD i 0):=fun i hi=>by
  have:enode f≠i:=by
   rintro rfl;rcases h.low with h0|h0
   . have:enode f=0:=h0;omega
   . have e:f/2=enode f:=rfl;rw[e] at h0;omega
  simp only[List.getD,VY,Vs this]
 have g6:Hq (true=true->∀ i,(d.counts.set (enode f) (Ai d (enode f)-1)).getD i 0<=d.counts.getD i 0):=fun _ i=>by
  by_cases e:enode f=i
  . subst e;simp only[List.getD,VY];simp[g4,Ai,List.getD]
  . simp only[List.getD,VY,Vs e];omega
 have g0:Hq (Ao o (w.setCell ⟨gc,enode f,none⟩ (Iv ((Ai d (enode f)-1:Nat):Int))) sb (d.cd (d.counts.set (enode f) (Ai d (enode f)-1)) d.dead) s/\AD (d.cd (d.counts.set (enode f) (Ai d (enode f)-1)) d.dead) (addE ext f (-1))) :=
  ⟨h.st.setCount hv g8 _ _,by rw[Kx];exact h.live.lessLive hx hc⟩
 have g1:=Hd ((Chg.refl RCnt o w).setCell (p:=⟨gc,enode f,none⟩) g9 (.inr rfl) (Iv ((Ai d (enode f)-1:Nat):Int)));rw[show ((Ai d (enode f)-1:Nat):Int)=(Ai d (enode f):Nat)-1 from by omega] at g0 g1;have g2:((enode f:Nat):Int)≠0:=by have:=g7.1;omega
 have HN:=Hd (fun W=>BE f W hf);have gl:sb≠gc:=fun e=>g8 e.symm
 have gg:((enode f:Nat):Int)<d.counts.length:=by omega
 obtain⟨k,hk⟩:=Ex (enode f);obtain⟨c,gf⟩:=Ex (Ai d (enode f));have gn:c<=2199023255552:=by omega
 have gr:1<c:=by omega
 rw[<- gf] at gd g0 g1 g3 g6;rw[<- hk] at gd gj g0 g1 g2 HN gg g3 g6;have gp:((k:Int) == 0)=false:=by simpa using g2
 have go:0<k:=by omega
 have gm:d.counts.length<=9223372036854775807:=by unfold maxLen at ge;omega
 have gq:(1:Int)<(c:Int):=by omega
 clear h hx hc hv g9 gi ge ga g5 hk gf gh g7 g2 g4 gk hf
 go_enter func226,ntmps226
 go_wp2_with fail;refine(HN.o _).mono ?_;rintro x w' ⟨rfl,rfl⟩;go_wp2_with fail;refine VR (DS rfl _ _ _) rfl ⟨_,_,rfl,g0.o.1,g0.o.2,by simp,g3.o,(fun e=>by first|exact absurd e (by decide)|exact g6.o (by simp)),g1.o⟩
theorem Pn {o:Own}{s:A4}{ext:Nat->Int}{m:Nat}(h:EH o w sb d s rk ext f m)(hx:enode f=0) :
 Cl 226 #[Pt sb,Iv f] w (BB o w sb d s rk m true (addE ext f (-1))):=by
 have hf:f<eMax:=by have:=h.st.edge_lt h.ok;unfold eMax;omega
 have g0:Hq (BB o w sb d s rk m true (addE ext f (-1)) (.returned (.tuple #[])) w) :=
  ⟨d.counts,d.dead,rfl,h.st,h.live.congr (fun y b hb=>by
   have:y≠0:=by rintro rfl;rw[h.acy.none0] at hb;cases hb
   have e:f/2=0:=hx;simp[addE,toE,e,Wn this]),rfl,fun _ _=>rfl,fun _ _=>Vu _,Chg.refl _ _ _⟩
 have HN:=Hd (fun W=>BE f W hf);rw[hx] at HN;clear h hx hf
 go_enter func226,ntmps226
 go_wp2_with fail;refine(HN.o _).mono ?_;rintro x w' ⟨rfl,rfl⟩;go_wp2_with fail;refine VR (DS rfl _ _ _) rfl g0.o
theorem Po {o:Own}{s:A4}{ext:Nat->Int}{m:Nat}(h:EH o w sb d s rk ext f (m+1)){b:BN}(hx:Aa d (enode f)=some b)(hc:Ai d (enode f)=1)
 (ih:∀ w d ext f,EH o w sb d s rk ext f m->Cl 226 #[Pt sb,Iv f] w (BB o w sb d s rk m true (addE ext f (-1)))) :
 Cl 226 #[Pt sb,Iv f] w (BB o w sb d s rk (m+1) true (addE ext f (-1))):=by
 have gS:=h.st.edge_lt h.ok;have hf:f<eMax:=by unfold eMax;omega
 have g5:=h.live.has _ _ hx;obtain⟨gc,cap,hv,gv,gh,gO,gB,gw,g6⟩:=h.st.countsAt g5;obtain⟨c0,c1,c2,c3,c4,f0⟩:=cells5 h.st.blk;rw[hv] at c3;have gj:=g6 _ g5;have gx:=gw (enode f);have gt:=h.st.tk_lt hx;have gu:=h.live.lessDies hx hc;have gA:d.dead<=1048577:=by
  have h1:=h.live.dead;have h2:=EE (f:=dead1 (Aa d) (Ai d)) (B:=1) d.pool.at_.length (fun i _=>by unfold dead1;split<;>first|omega|(split<;>omega));have h3:Ba d.pool.at_.length (Aa d) (Ai d)=Ag d.pool.at_.length (dead1 (Aa d) (Ai d)):=rfl;omega
 have gV:=Hd h.lt;have gp:∀ i,m+1<=rk i->(d.counts.set (enode f) 0).getD i 0=d.counts.getD i 0:=fun i hi=>by
  have:enode f≠i:=by
   rintro rfl;rcases h.low with h0|h0
   . have:enode f=0:=h0;omega
   . have e:f/2=enode f:=rfl;rw[e] at h0;omega
  simp only[List.getD,VY,Vs this]
 have gd:true=true->∀ i,(d.counts.set (enode f) 0).getD i 0<=d.counts.getD i 0:=fun _ i=>by
  by_cases e:enode f=i
  . subst e;simp only[List.getD,VY];simp[g5]
  . simp only[List.getD,VY,Vs e];omega
 have gM:rk (enode f)<=m:=by
  rcases h.low with h0|h0
  . have:enode f=0:=h0;omega
  . have e:f/2=enode f:=rfl;rw[e] at h0;omega
 have g3:∀ e,(okE (Aa d) e)->(∀ c,Aa d (e/2)=some c->rk (e/2)<rk (enode f))->e/2=0\/rk (e/2)<m:=fun e ho hr=>by
  rcases ho with h0|⟨c,hc⟩
  . exact .inl h0
  . exact .inr (by have:=hr c hc;omega)
 have st1:Ao o (w.setCell ⟨gc,enode f,none⟩ (Iv ((0:Nat):Int))) sb (d.cd (d.counts.set (enode f) 0) d.dead) s:=h.st.setCount hv gh _ _;have g2:Ac o (w.setCell ⟨gc,enode f,none⟩ (Iv ((0:Nat):Int))):=h.lt.mono (by simp[World.setCell]);have st2:Ao o ((w.setCell ⟨gc,enode f,none⟩ (Iv ((0:Nat):Int))).setCell (Aw sb 4) (Iv ((d.dead+1:Nat):Int))) sb (d.cd (d.counts.set (enode f) 0) (d.dead+1)) s:=st1.setDead g2 _;have gq:=Hd (((Chg.refl RCnt o w).setCell (p:=⟨gc,enode f,none⟩) gv (.inr rfl) (Iv ((0:Nat):Int))).setCell (p:=Aw sb 4) h.st.own (.inl rfl) (Iv ((d.dead+1:Nat):Int)));have g0:Ac o ((w.setCell ⟨gc,enode f,none⟩ (Iv ((0:Nat):Int))).setCell (Aw sb 4) (Iv ((d.dead+1:Nat):Int))):=g2.mono (by simp[World.setCell]);have gg:=BJ hx;have gT:∃ N,N=d.pool.has (enode f)/\N.lo=b.lo/\N.hi=b.hi:=⟨_,rfl,by rw[<- gg.2.2];rfl,by rw[<- gg.2.2];rfl⟩;have gy:addE (addE (addE (addE (bump ext (enode f) (-1)) b.lo 1) b.hi 1) b.lo (-1)) b.hi (-1)=addE ext f (-1):=by
  funext y;have h1:=congrFun (Kx (ext:=ext) (f:=f)) y;have h2:enode f=f/2:=rfl;rw[h2,h1];simp only[addE];omega
 obtain⟨W2,gm⟩:∃ W,W=(w.setCell ⟨gc,enode f,none⟩ (Iv ((0:Nat):Int))).setCell (Aw sb 4) (Iv ((d.dead+1:Nat):Int)):=⟨_,rfl⟩;rw[<- gm] at st2 gq g0;have gJ:=Hd g0;have g1:Hq (∀ W:Wd,Bw W2 W->Cl 228 #[Pt s.pb,Iv (enode f:Nat)] W (Bl (.tuple #[An (d.pool.has (enode f)),.bool (d.pool.tk (enode f))]) W)) :=
  Hd (fun W hb=>CX o s.pb d.pool (enode f) W (st2.pool.below hb g0) (g0.mono hb.size))
 have gZ:Hq (∀ W:Wd,Bw W2 W->W.cell? (Aw sb 1)=some (Pt s.pb)):=Hd (fun W hb=>(cells5 (st2.below g0 hb).blk).2.1);have gC:Hq (∀ W:Wd,Bw W2 W->Cl 226 #[Pt sb,Iv (b.lo:Nat)] W (BB o W sb (d.cd (d.counts.set (enode f) 0) (d.dead+1)) s rk m true (addE (addE (addE (bump ext (enode f) (-1)) b.lo 1) b.hi 1) b.lo (-1)))) :=
  Hd (fun W hb=>ih W _ _ b.lo ⟨st2.below g0 hb,g0.mono hb.size,h.acy,h.acy.okLo _ _ hx,gu,fun y q hq=>Vy (gd rfl y) (h.top y q hq),fun y q hq=>by
   have h1:=h.pos y q hq;have h2:toE f y=if enode f=y then 1 else 0:=rfl
   have h3:=Cx b.lo y;have h4:=Cx b.hi y;simp only[addE,bump]
   by_cases e:y=enode f
   . rw[Vw e.symm] at h2;rw[Vw e];omega
   . rw[Vs (Wn e)] at h2;rw[Vs e];omega,g3 b.lo (h.acy.okLo _ _ hx) (fun c hc=>h.acy.ltLo _ _ c hx hc)⟩)
 have gE:Hq (∀ (W:Wd) (cs:List Nat) (dd:Nat),Ao o W sb ((d.cd (d.counts.set (enode f) 0) (d.dead+1)).cd cs dd) s->AD ((d.cd (d.counts.set (enode f) 0) (d.dead+1)).cd cs dd) (addE (addE (addE (bump ext (enode f) (-1)) b.lo 1) b.hi 1) b.lo (-1))->(true=true->∀ i,cs.getD i 0<=(d.counts.set (enode f) 0).getD i 0)->Chg RCnt o o w W ->
  Cl 226 #[Pt sb,Iv (b.hi:Nat)] W (BB o W sb ((d.cd (d.counts.set (enode f) 0) (d.dead+1)).cd cs dd) s rk m true (addE ext f (-1)))) :=
  Hd (fun W cs dd hs hl gi gk=>by
   rw[<- gy]
   exact ih W _ _ b.hi ⟨hs,gV.o.mono gk.size,h.acy,h.acy.okHi _ _ hx,hl,fun y q hq=>Vy (Vy (gi rfl y) (gd rfl y)) (h.top y q hq),fun y q hq=>by
    have h1:=h.pos y q hq;have h2:toE f y=if enode f=y then 1 else 0:=rfl
    have h3:=Cx b.lo y;have h4:=Cx b.hi y;simp only[addE,bump]
    by_cases e:y=enode f
    . rw[Vw e.symm] at h2;rw[Vw e];omega
    . rw[Vs (Wn e)] at h2;rw[Vs e];omega,g3 b.hi (h.acy.okHi _ _ hx) (fun c hc=>h.acy.ltHi _ _ c hx hc)⟩)
 have gL:Hq (∀ (W:Wd) (cs:List Nat) (dd:Nat),Ao o W sb (d.cd cs dd) s->AD (d.cd cs dd) (addE ext f (-1))->cs.length=(d.counts.set (enode f) 0).length->(∀ i,m+1<=rk i->cs.getD i 0=(d.counts.set (enode f) 0).getD i 0)->(true=true->∀ i,cs.getD i 0<=(d.counts.set (enode f) 0).getD i 0)->Chg RCnt o o w W ->
  BB o w sb d s rk (m+1) true (addE ext f (-1)) (.returned (.tuple #[])) W) :=
  fun W cs dd hs hl gH gN gi gk=>⟨cs,dd,rfl,hs,hl,by rw[gH];simp,fun i hi=>(gN i hi).trans (gp i hi),fun e i=>Vy (gi e i) (gd e i),gk⟩
 have ga:Hq (W2=(w.setCell ⟨gc,enode f,none⟩ (Iv 0)).setCell (Aw sb 4) (Iv ((d.dead:Int)+1))):=by
  show _=_
  rw[gm,show ((d.dead+1:Nat):Int)=(d.dead:Int)+1 from by omega];rfl
 have g4:((enode f:Nat):Int)≠0:=by have:=gt.1;omega
 have HN:=Hd (fun W=>BE f W hf);have gG:sb≠gc:=fun e=>gh e.symm
 have ge:((enode f:Nat):Int)<d.counts.length:=by omega
 obtain⟨N,hN,gn,go⟩:=gT;rw[<- hN] at g1;rw[<- gn,<- go] at gC gE;obtain⟨B,hB⟩:=Ex (d.pool.tk (enode f));rw[<- hB] at g1;rw[hc] at gj;obtain⟨k,hk⟩:=Ex (enode f);rw[<- hk] at gj gx g1 g4 HN ge ga;have gQ:((k:Int) == 0)=false:=by simpa using g4
 have gP:0<k:=by omega
 have gI:d.counts.length<=9223372036854775807:=by unfold maxLen at gB;omega
 obtain⟨dn,gz⟩:∃ n,n=d.dead:=⟨_,rfl⟩;rw[<- gz] at c4 gA ga;clear ih h hx hc hv gv gO gB gw g6 gt g4 g5 gS hf gu st1 st2 g2 g0 gp gd gM g3 gm gy hN gn go hB gz gg hk
 go_enter func226,ntmps226
 go_wp2_with fail;refine(HN.o _).mono ?_;rintro x w' ⟨rfl,rfl⟩;go_wp2_with fail;rw[<- ga.o];refine(g1.o W2 (VI _ _)).mono ?_;rintro x v2 ⟨rfl,g8⟩;unfold An;clear ga c0 c1 c2 c3 c4 f0 gj gx HN gh gG ge gQ gP gI gA;go_wp2_with fail;obtain⟨W3,g9⟩:∃ W,W=v2.alloc (.cells #[Iv N.id,Iv N.v,Iv N.lo,Iv N.hi,Iv N.refs] 254):=⟨_,rfl⟩;obtain⟨bx,g7⟩:=Ex v2.heap.size;have gR:W2.heap.size<=bx:=by rw[g7];exact g8.size
 have gl:Bw W2 W3:=by rw[g9];exact g8.alloc g8.size _
 have gf:W3.heap[bx]?=some (.cells #[Iv N.id,Iv N.v,Iv N.lo,Iv N.hi,Iv N.refs] 254 (0,0)):=by rw[g9,g7];exact Vv v2 _
 rw[<- g9];rw[<- g7];clear g9 g7 g8 g1 gZ;refine(gC.o _ gl).mono ?_;rintro x w1 ⟨cs1,dd1,rfl,st1,lv1,len1,low1,le1,chg1⟩;have gr:=(chg1.alien (Vr.1 gf).1 (gJ.o.none gR)).trans gf;obtain⟨z0,z1,z2,z3,z4,zz⟩:=cells5 gr;have gU:=Hd st1;have gX:=Hd lv1;have gY:=Hd len1;have HW1:=Hd low1;have gD:=Hd le1;have gF:=Hd ((gq.o.trans (Chg.of_below gl RCnt o)).trans chg1);clear st1 lv1 len1 low1 le1 chg1 gf gr gl;go_wp2_with fail;refine(gE.o w1 cs1 dd1 gU.o gX.o (fun e=>by first|exact absurd e (by decide)|exact gD.o (by simp)) gF.o).mono ?_;rintro x w2 ⟨cs2,dd2,rfl,st2,lv2,len2,low2,le2,chg2⟩;have gK:=Hd (gL.o w2 cs2 dd2 st2 lv2 (len2.trans gY.o) (fun i hi=>(low2 i (by omega)).trans (HW1.o i (by omega))) (fun e i=>by first|exact absurd e (by decide)|exact Vy (le2 (by simp) i) (gD.o (by simp) i)) (gF.o.trans chg2));clear st2 lv2 len2 low2 le2 chg2;go_wp2_with fail;refine Xi (DS rfl _ _ _) rfl gK.o
theorem GX (o:Own)(sb:Nat)(s:A4)(rk:Nat->Nat):∀ (m:Nat) (w:Wd) (d:Ae) (ext:Nat->Int) (f:Nat),EH o w sb d s rk ext f m ->
 Cl 226 #[Pt sb,Iv f] w (BB o w sb d s rk m true (addE ext f (-1)))
 | m,w,d,ext,f,h=>by
   by_cases h0:enode f=0
   . exact Pn h h0
   ·obtain⟨b,hx⟩:∃ b,Aa d (enode f)=some b:=h.ok.resolve_left h0
    have hp:0<Ai d (enode f):=h.live.cnt.pos_of_ext hx (by
     have h1:=h.pos _ _ hx;rw[show toE f (enode f)=1 from DN f] at h1;omega)
    by_cases hc:1<Ai d (enode f)
    . exact Pm h hx hc
    ·cases m with
     | zero=>exact absurd (h.low.resolve_left h0) (by omega)
     | succ m=>exact Po h hx (by omega) (GX o sb s rk m)
def Br (r:Role):Prop:=r=.pool\/r=.slots\/r=.taken\/r=.free
def Al (r:Role):Prop:=r=.store\/r=.levels\/r=.vars\/r=.level\/Br r\/r=.tabs\/(∃ v,r=.tab v\/r=.tmap v)\/r=.counts
section
variable {o:Own}{s:A4}
theorem Ao.setPool (h:Ao o w sb d s)(hlt:Ac o w){p':Ad}(hp:Ap o' w' s.pb p')(hc:Chg Br o o' w w'):Ao o' w' sb { d with pool:=p' } s:=by
 have n:∀ {r},r ≠ .pool->r ≠ .slots->r ≠ .taken->r ≠ .free->¬ Br r:=fun a b c d h=>by rcases h with h|h|h|h<;>contradiction
 exact⟨hc.ext _ _ h.own,hc.ext _ _ h.ownl,(hc.same hlt h.own (n (by simp) (by simp) (by simp) (by simp))).trans h.blk,(hc.same hlt h.ownl (n (by simp) (by simp) (by simp) (by simp))).trans h.lev,
  h.vars.chg hc hlt (n (by simp) (by simp) (by simp) (by simp)),h.level.chg hc hlt (n (by simp) (by simp) (by simp) (by simp)),hp,h.tabs.chg hc hlt (n (by simp) (by simp) (by simp) (by simp)),
  fun v hv=>(h.tab v hv).chg hc hlt (n (by simp) (by simp) (by simp) (by simp)) (n (by simp) (by simp) (by simp) (by simp)),h.counts.chg hc hlt (n (by simp) (by simp) (by simp) (by simp)),h.len,h.tlen⟩
theorem Ao.setTab (h:Ao o w sb d s)(hlt:Ac o w){v:Nat}{f':Nat×Nat->Option Nat}(ht:AN o' w' v (s.ts.getD v 0) f')(hc:Chg (· = .tmap v) o o' w w'):Ao o' w' sb { d with tab:=fun u=>if u=v then f' else d.tab u } s:=by
 refine⟨hc.ext _ _ h.own,hc.ext _ _ h.ownl,(hc.same hlt h.own (by simp)).trans h.blk,(hc.same hlt h.ownl (by simp)).trans h.lev,
  h.vars.chg hc hlt (by simp),h.level.chg hc hlt (by simp),h.pool.chg hc hlt (by simp) (by simp) (by simp) (by simp),h.tabs.chg hc hlt (by simp),
  fun u hu=>?_,h.counts.chg hc hlt (by simp),h.len,h.tlen⟩
 dsimp only
 by_cases e:u=v
 . subst e;rw[Vw rfl];exact ht
 . rw[Vs e];exact(h.tab u hu).chg hc hlt (by simp) (by simpa using e)
end
def Aj (d:Ae):Nat->Int:=fun i=>if d.pool.tk i=true then ((d.pool.nd i).refs:Int) else 0
structure Dp (d d':Ae)(f:Nat)(sg:Int):Prop where
 vars:d'.vars=d.vars
 level:d'.level=d.level
 tab:d'.tab=d.tab
 nodes:Aa d'=Aa d
 many:d'.pool.many=d.pool.many
 free:d'.pool.free=d.pool.free
 room:d'.pool.room=d.pool.room
 len:d'.pool.at_.length=d.pool.at_.length
 clen:d'.counts.length=d.counts.length
 ext:∀ i,i≠0->Aj d' i=Aj d i+sg*toE f i
 live:AD d' (Aj d')
def Dq (o:Own)(w:Wd)(sb:Nat)(d:Ae)(s:A4)(f:Nat)(sg:Int)(e:Ending)(w':Wd):Prop :=
 ∃ d',e=.returned (Iv 0)/\Ao o w' sb d' s/\Ac o w'/\Dp d d' f sg/\Chg Al o o w w'
theorem GY:∀ r,RCnt r->Al r:=fun r h=>by rcases h with h|h<;>simp[Al,h]
theorem GZ:∀ r:Role,r=.slots->Al r:=fun r h=>by simp[Al,Br,h]
def RN.ref (n:RN)(k:Nat):RN:={ n with refs:=k }
theorem Ia (hk:x<d.pool.at_.length)(ht:d.pool.tk x=true):Aa { d with pool:=d.pool.setNd x ((d.pool.nd x).ref k) }=Aa d:=by
 funext i;unfold Aa;rw[Ad.setNd_get hk ht]
 by_cases e:i=x
 . subst e;simp[Ad.get,ht,RN.ref,bnOf]
 . rw[Vs e]
theorem FB (hk:x<d.pool.at_.length)(ht:d.pool.tk x=true):Aj { d with pool:=d.pool.setNd x ((d.pool.nd x).ref k) }=fun i=>if i=x then (k:Int) else Aj d i:=by
 funext i;unfold Aj;have h1:(d.pool.setNd x ((d.pool.nd x).ref k)).tk i=d.pool.tk i:=rfl;have h2:(d.pool.setNd x ((d.pool.nd x).ref k)).nd i=if i=x then (d.pool.nd x).ref k else d.pool.nd i:=CR hk i
 dsimp only;rw[h1,h2]
 by_cases e:i=x
 . subst e;simp[ht,RN.ref]
 . simp[e]
theorem CG (ht:d.pool.tk x=true):Aj d x=((d.pool.nd x).refs:Int):=by simp[Aj,ht]
theorem Ky {ext:Nat->Int}(hk:x<d.pool.at_.length)(ht:d.pool.tk x=true)(h:AD d ext):AD { d with pool:=d.pool.setNd x ((d.pool.nd x).ref k) } ext:=by
 have hn:=Ia (k:=k) hk ht;have hL:({ d with pool:=d.pool.setNd x ((d.pool.nd x).ref k) }:Ae).pool.at_.length=d.pool.at_.length:=by simp[Ad.setNd]
 refine⟨?_,?_,?_⟩
 . rw[hn,hL];exact h.cnt
 . rw[hn,hL];exact h.dead
 . rw[hn];exact h.has
theorem Pp {o:Own}{s:A4}(h:Ao o w sb d s)(hlt:Ac o w)(hl:AD d (Aj d))(f:Nat)(hf:f<eMax)(hx:enode f=0) :
 Cl 227 #[Pt sb,Iv f] w (Dq o w sb d s f 1):=by
 obtain⟨c0,c1,c2,c3,c4,f0⟩:=cells5 h.blk;have lsb:sb<w.heap.size:=Af c0;have g3:Hq (∀ W:Wd,Bw w W->Dq o w sb d s f 1 (.returned (Iv 0)) W):=fun W hb =>
  ⟨d,rfl,h.below hlt hb,hlt.mono hb.size,⟨rfl,rfl,rfl,rfl,rfl,rfl,rfl,rfl,rfl,fun i hi=>by
   have e:f/2=0:=hx;simp[toE,e,Wn hi],hl⟩,Chg.of_below hb _ _⟩
 have g1:(decide (enode f=0)||d.pool.tk (enode f))=true:=by rw[hx];rfl
 have g7:Hq (∀ W:Wd,Bw w W->Cl 198 #[Pt sb,Iv f] W (Bl (.bool true) W)):=fun W hb=>by
  have h1:=DR (h.below hlt hb) (hlt.mono hb.size) f hf;rw[g1] at h1;exact h1
 have g4:d.pool.tk 0=false:=h.pool.zero;have g2:Hq (∀ W:Wd,Bw w W->Cl 228 #[Pt s.pb,Iv (enode f:Nat)] W (Bl (.tuple #[An (d.pool.has (enode f)),.bool (d.pool.tk (enode f))]) W)) :=
  Hd (fun W hb=>CX o s.pb d.pool (enode f) W (h.pool.below hb hlt) (hlt.mono hb.size))
 have g8:Hq (∀ W:Wd,Bw w W->W.cell? (Aw sb 1)=some (Pt s.pb)):=Hd (fun W hb=>(hb.cell (p:=Aw sb 1) lsb).trans c1);have HN:=Hd (fun W=>BE f W hf);have g0:d.pool.tk (enode f)=false:=by rw[hx];exact g4
 obtain⟨N,hN⟩:=Ex (d.pool.has (enode f));obtain⟨B,hB⟩:=Ex (d.pool.tk (enode f));obtain⟨k,hk⟩:=Ex (enode f);rw[<- hN,<- hB,<- hk] at g2;rw[<- hk] at HN;have HB:=Hd (hB.trans g0);clear h hlt hl hf hx g1 c0 c1 c2 c3 c4 f0 lsb g4 g0 hN hk hB
 go_enter func227,ntmps227
 go_wp2_with fail;refine(g7.o _ (VI _ _)).mono ?_;rintro x w1 ⟨rfl,g6⟩;have g9:=Hd g6;clear g6;go_upto_region 5 with fail;refine D6 (w0:=w) (N:=N) (v0:=Pt sb) (v1:=Pt sb) (v2:=.pointer (some (Aw sb 1))) (v3:=Pt s.pb) (v4:=Iv f) (v5:=Iv k) (v6:=.tuple #[An N,.bool B]) (v7:=.tuple #[An N,.bool B]) (v8:=An N) (v9:=.bool B) (v12:=.bool B) rfl (by kernel_rfl) (by kernel_rfl) ⟨⟨rfl,rfl,rfl,rfl,rfl,rfl,rfl⟩,rfl,rfl,rfl,rfl,rfl,rfl⟩ rfl (by decide) (Cg g9.o 1) (fun W _=>HN.o W) (fun W hb=>g2.o W hb) (fun W hb=>?_) (fun x W=>?_) (fun x W X hX=>?_) (fun a W=>?_) (fun bx W Y hz hY=>?_) (fun bx W3 gd g5 ga=>?_)
 . have ge:=g8.o W hb;simp only[Ab];refine⟨?_,?_,?_,?_,?_⟩<;>go_simp
 . simp only[Ab];refine⟨?_,?_⟩<;>go_simp
 . subst hX;simp only[Ab];unfold An;refine⟨?_,?_,?_⟩<;>go_simp
 . go_simp
 . subst hY;obtain⟨e0,e1,e2,e3,e4,fz⟩:=cells5 hz;simp only[Ab];unfold An;refine⟨⟨_,_,_,rfl,Dj (k:=0) fz e0 e1 e2 e3 e4 _ _ _ _ _⟩,fun W=>?_⟩;go_simp
 simp only[Ab];unfold An;obtain rfl:B=false:=HB.o;have gc:=Hd g5;clear g5 ga g2 HN g7 g8 g9 HB;go_wp2_with fail;go_ret;exact g3.o _ gc.o
theorem Pq {o:Own}{s:A4}(h:Ao o w sb d s)(hlt:Ac o w)(hl:AD d (Aj d))(ha:Acy (Aa d) rk)(f:Nat){b:BN}(hx:Aa d (enode f)=some b)
 (htop:∀ y b,Aa d y=some b->Aj d y<1099511627776) :
 Cl 227 #[Pt sb,Iv f] w (Dq o w sb d s f 1):=by
 obtain⟨c0,c1,c2,c3,c4,f0⟩:=cells5 h.blk;have lsb:sb<w.heap.size:=Af c0;have g9:okE (Aa d) f:=.inr ⟨b,hx⟩;have hf:f<eMax:=by have:=h.edge_lt g9;unfold eMax;omega
 have g0:=BJ hx;have g3:=h.tk_lt hx;have gx:(d.pool.nd (enode f)).refs<1099511627776:=by have:=htop _ _ hx;rw[CG g0.1] at this;omega
 have hid:(d.pool.nd (enode f)).id=enode f:=h.pool.id _ g0.1;have ga:(decide (enode f=0)||d.pool.tk (enode f))=true:=by rw[g0.1];simp
 have gr:Hq (∀ W:Wd,Bw w W->Cl 198 #[Pt sb,Iv f] W (Bl (.bool true) W)):=fun W hb=>by
  have h1:=DR (h.below hlt hb) (hlt.mono hb.size) f hf;rw[ga] at h1;exact h1
 have g2:Hq (∀ W:Wd,Bw w W->Cl 228 #[Pt s.pb,Iv (enode f:Nat)] W (Bl (.tuple #[An (d.pool.has (enode f)),.bool (d.pool.tk (enode f))]) W)) :=
  Hd (fun W hb=>CX o s.pb d.pool (enode f) W (h.pool.below hb hlt) (hlt.mono hb.size))
 have gt:Hq (∀ W:Wd,Bw w W->W.cell? (Aw sb 1)=some (Pt s.pb)):=Hd (fun W hb=>(hb.cell (p:=Aw sb 1) lsb).trans c1);have HN:=Hd (fun W=>BE f W hf);obtain⟨r,hr⟩:=Ex ((d.pool.nd (enode f)).refs)
 skip
 have gc:Hq (∀ W:Wd,Bw w W->Cl 224 #[Pt s.pb,An ((d.pool.nd (enode f)).ref (r+1))] W fun x w'=>x=.returned (Iv 0)/\Ao o w' sb { d with pool:=d.pool.setNd (enode f) ((d.pool.nd (enode f)).ref (r+1)) } s/\Chg Al o o w w'/\Ac o w'):=fun W hb=>by
  have gz:d.pool.tk ((d.pool.nd (enode f)).ref (r+1)).id=true:=by show d.pool.tk (d.pool.nd (enode f)).id=true;rw[hid];exact g0.1
  refine(GD o s.pb d.pool ((d.pool.nd (enode f)).ref (r+1)) W (h.pool.below hb hlt) (hlt.mono hb.size) gz).mono ?_;rintro e w' ⟨rfl,hp,hc,g6⟩;have e1:((d.pool.nd (enode f)).ref (r+1)).id=enode f:=hid;rw[e1] at hp;exact⟨rfl,(h.below hlt hb).setPool (hlt.mono hb.size) hp (hc.mono (fun r hr=>by simp[Br,hr])),(Chg.of_below hb _ _).trans (hc.mono GZ),g6⟩
 have g8:Hq (∀ (W:Wd),Ao o W sb { d with pool:=d.pool.setNd (enode f) ((d.pool.nd (enode f)).ref (r+1)) } s->Ac o W->Chg Al o o w W ->
  Cl 223 #[Pt sb,Iv f] W fun e w'=>e=.returned (.tuple #[])/\Dq o w sb d s f 1 (.returned (Iv 0)) w'):=fun W hs g6 gC=>by
  have g5:=Ia (d:=d) (k:=r+1) g3.2.1 g0.1
  refine(GW o sb s rk (rk (enode f)+1) W _ (Aj d) f ⟨hs,g6,by rw[g5];exact ha,by rw[g5];exact g9,Ky g3.2.1 g0.1 hl,fun y q hq=>(by
   rw[g5] at hq;have h1:=htop y q hq;have h2:toE f y<=1:=by unfold toE;split<;>omega
   omega),.inr (Nat.lt_succ_self _)⟩).mono ?_
  rintro e w' ⟨cs,dd,rfl,gw,gy,gB,_,_,gi⟩;refine⟨rfl,_,rfl,gw,g6.mono gi.size,⟨rfl,rfl,rfl,g5,rfl,rfl,rfl,by simp[Ae.cd,Ad.setNd],gB,fun i hi=>?_,gy.congr (fun y b' hb'=>?_)⟩,gC.trans (gi.mono GY)⟩
  ·show Aj { d with pool:=d.pool.setNd (enode f) ((d.pool.nd (enode f)).ref (r+1)) } i=_
   rw[FB g3.2.1 g0.1];dsimp only;unfold toE
   by_cases e:i=enode f
   . have e':f/2=i:=e.symm;rw[Vw e,Vw e',e,CG g0.1,<- hr];omega
   ·have e':¬ f/2=i:=fun h'=>e h'.symm
    rw[Vs e,Vs e'];omega
  ·show Aj { d with pool:=d.pool.setNd (enode f) ((d.pool.nd (enode f)).ref (r+1)) } y=_
   rw[FB g3.2.1 g0.1];dsimp only;unfold addE toE
   by_cases e:y=enode f
   . have e':f/2=y:=e.symm;rw[Vw e,Vw e',e,CG g0.1,<- hr];omega
   ·have e':¬ f/2=y:=fun h'=>e h'.symm
    rw[Vs e,Vs e'];omega
 have go:d.pool.has (enode f)=d.pool.nd (enode f):=g0.2.1;rw[go] at g2;have gd:Hq (An ((d.pool.nd (enode f)).ref (r+1))=.agg #[Iv (d.pool.nd (enode f)).id,Iv (d.pool.nd (enode f)).v,Iv (d.pool.nd (enode f)).lo,Iv (d.pool.nd (enode f)).hi,Iv ((r:Int)+1)]):=by
  show _=_
  unfold An RN.ref;dsimp only;rw[show ((r+1:Nat):Int)=(r:Int)+1 from by omega]
 rw[g0.1] at g2;rw[<- hr] at gx;obtain⟨N,hN⟩:=Ex (d.pool.nd (enode f));have gn:N.refs=r:=by rw[hN,hr]
 rw[<- hN] at g2 gd gc g8;obtain⟨B,hB⟩:=Ex true;rw[<- hB] at g2;obtain⟨k,hk⟩:=Ex (enode f);rw[<- hk] at g2 HN;have gu:=Hd hB;have gq:=Hd gn;have gH:=Hd hk;clear h hlt hl ha hx htop hf g0 ga g3 hid hr go hN hB hk g9 c0 c1 c2 c3 c4 f0 lsb gn
 go_enter func227,ntmps227
 go_wp2_with fail;refine(gr.o _ (VI _ _)).mono ?_;rintro x w1 ⟨rfl,gl⟩;have gG:=Hd gl;clear gl gr;go_upto_region 5 with fail;refine D6 (w0:=w) (N:=N) (v0:=Pt sb) (v1:=Pt sb) (v2:=.pointer (some (Aw sb 1))) (v3:=Pt s.pb) (v4:=Iv f) (v5:=Iv k) (v6:=.tuple #[An N,.bool B]) (v7:=.tuple #[An N,.bool B]) (v8:=An N) (v9:=.bool B) (v12:=.bool B) rfl (by kernel_rfl) (by kernel_rfl) ⟨⟨rfl,rfl,rfl,rfl,rfl,rfl,rfl⟩,rfl,rfl,rfl,rfl,rfl,rfl⟩ rfl (by decide) (Cg gG.o 1) (fun W _=>HN.o W) (fun W hb=>g2.o W hb) (fun W hb=>?_) (fun x W=>?_) (fun x W X hX=>?_) (fun a W=>?_) (fun bx W Y hz hY=>?_) (fun bx W3 gA gk ge=>?_)
 . have gj:=gt.o W hb;simp only[Ab];refine⟨?_,?_,?_,?_,?_⟩<;>go_simp
 . simp only[Ab];refine⟨?_,?_⟩<;>go_simp
 . subst hX;simp only[Ab];unfold An;refine⟨?_,?_,?_⟩<;>go_simp
 . go_simp
 . subst hY;obtain⟨e0,e1,e2,e3,e4,fz⟩:=cells5 hz;simp only[Ab];unfold An;refine⟨⟨_,_,_,rfl,Dj (k:=0) fz e0 e1 e2 e3 e4 _ _ _ _ _⟩,fun W=>?_⟩;go_simp
 simp only[Ab];unfold An;obtain rfl:B=true:=gu.o;have g1:=ge;unfold GT at g1;rw[gq.o] at g1;have gp:=Hd g1;have gv:=Hd gk;obtain⟨y0,y1,y2,y3,y4,yz⟩:=cells5 g1;clear ge g1 gk gq g2 HN gu;go_upto_region 8 with fail;have g4:=A2 (k:=4) gp.o (Iv ((r:Int)+1));have g7:Bw w (W3.setCell (Aw bx 4) (Iv ((r:Int)+1))):=gv.o.setCell (p:=Aw bx 4) gA _;obtain⟨W4,gm⟩:∃ W,W=W3.setCell (Aw bx 4) (Iv ((r:Int)+1)):=⟨_,rfl⟩;rw[<- gm] at g4 g7 ⊢;clear gm gp gv y0 y1 y2 y3 y4 yz;simp at g4;obtain⟨z0,z1,z2,z3,z4,zz⟩:=cells5 g4;have gj:=gt.o _ g7;refine AJ (fun w'=>w'=W4.drew) true 5 [(0,false),(1,false),(2,false),(3,false),(4,false),(5,true)] (by kernel_rfl) (by kernel_rfl) rfl ?_;simp only[planned,AH]
 iterate 5
  refine Aq rfl ?_;apply Exists.intro;refine⟨fun w' hw=>?_,?_⟩
  . subst hw;go_simp;rfl
  simp only[Ab]
 refine Di rfl (fun K hK=>?_);unfold Oper.wp;go_simp;rw[<- gd.o];refine(gc.o _ (Cg g7 1)).mono ?_;rintro x w5 ⟨rfl,gf,gh,gg⟩;refine hK _ _ (Cm ?_);have gD:=Hd gf;have gF:=Hd gh;have gE:=Hd gg;clear gf gh gg g4 g7 z0 z1 z2 z3 z4 zz gj;go_wp2_with fail;refine(g8.o _ gD.o gE.o gF.o).mono ?_;rintro x w6 ⟨rfl,hp⟩;have HP:=Hd hp;clear hp;go_wp2_with fail;go_ret;exact HP.o
theorem Pr {o:Own}{s:A4}(h:Ao o w sb d s)(hlt:Ac o w)(hl:AD d (Aj d))(f:Nat)(hf:f<eMax)(hx:enode f=0) :
 Cl 163 #[Pt sb,Iv f] w (Dq o w sb d s f (-1)):=by
 obtain⟨c0,c1,c2,c3,c4,f0⟩:=cells5 h.blk;have lsb:sb<w.heap.size:=Af c0;have g3:Hq (∀ W:Wd,Bw w W->Dq o w sb d s f (-1) (.returned (Iv 0)) W):=fun W hb =>
  ⟨d,rfl,h.below hlt hb,hlt.mono hb.size,⟨rfl,rfl,rfl,rfl,rfl,rfl,rfl,rfl,rfl,fun i hi=>by
   have e:f/2=0:=hx;simp[toE,e,Wn hi],hl⟩,Chg.of_below hb _ _⟩
 have g1:(decide (enode f=0)||d.pool.tk (enode f))=true:=by rw[hx];rfl
 have g7:Hq (∀ W:Wd,Bw w W->Cl 198 #[Pt sb,Iv f] W (Bl (.bool true) W)):=fun W hb=>by
  have h1:=DR (h.below hlt hb) (hlt.mono hb.size) f hf;rw[g1] at h1;exact h1
 have g4:d.pool.tk 0=false:=h.pool.zero;have g2:Hq (∀ W:Wd,Bw w W->Cl 228 #[Pt s.pb,Iv (enode f:Nat)] W (Bl (.tuple #[An (d.pool.has (enode f)),.bool (d.pool.tk (enode f))]) W)) :=
  Hd (fun W hb=>CX o s.pb d.pool (enode f) W (h.pool.below hb hlt) (hlt.mono hb.size))
 have g8:Hq (∀ W:Wd,Bw w W->W.cell? (Aw sb 1)=some (Pt s.pb)):=Hd (fun W hb=>(hb.cell (p:=Aw sb 1) lsb).trans c1);have HN:=Hd (fun W=>BE f W hf);have g0:d.pool.tk (enode f)=false:=by rw[hx];exact g4
 obtain⟨N,hN⟩:=Ex (d.pool.has (enode f));obtain⟨B,hB⟩:=Ex (d.pool.tk (enode f));obtain⟨k,hk⟩:=Ex (enode f);rw[<- hN,<- hB,<- hk] at g2;rw[<- hk] at HN;have HB:=Hd (hB.trans g0);clear h hlt hl hf hx g1 c0 c1 c2 c3 c4 f0 lsb g4 g0 hN hk hB
 go_enter func163,ntmps163
 go_wp2_with fail;refine(g7.o _ (VI _ _)).mono ?_;rintro x w1 ⟨rfl,g6⟩;have g9:=Hd g6;clear g6;go_upto_region 5 with fail;refine D6 (w0:=w) (N:=N) (v0:=Pt sb) (v1:=Pt sb) (v2:=.pointer (some (Aw sb 1))) (v3:=Pt s.pb) (v4:=Iv f) (v5:=Iv k) (v6:=.tuple #[An N,.bool B]) (v7:=.tuple #[An N,.bool B]) (v8:=An N) (v9:=.bool B) (v12:=.bool B) rfl (by kernel_rfl) (by kernel_rfl) ⟨⟨rfl,rfl,rfl,rfl,rfl,rfl,rfl⟩,rfl,rfl,rfl,rfl,rfl,rfl⟩ rfl (by decide) (Cg g9.o 1) (fun W _=>HN.o W) (fun W hb=>g2.o W hb) (fun W hb=>?_) (fun x W=>?_) (fun x W X hX=>?_) (fun a W=>?_) (fun bx W Y hz hY=>?_) (fun bx W3 gd g5 ga=>?_)
 . have ge:=g8.o W hb;simp only[Ab];refine⟨?_,?_,?_,?_,?_⟩<;>go_simp
 . simp only[Ab];refine⟨?_,?_⟩<;>go_simp
 . subst hX;simp only[Ab];unfold An;refine⟨?_,?_,?_⟩<;>go_simp
 . go_simp
 . subst hY;obtain⟨e0,e1,e2,e3,e4,fz⟩:=cells5 hz;simp only[Ab];unfold An;refine⟨⟨_,_,_,rfl,Dj (k:=0) fz e0 e1 e2 e3 e4 _ _ _ _ _⟩,fun W=>?_⟩;go_simp
 simp only[Ab];unfold An;obtain rfl:B=false:=HB.o;have gc:=Hd g5;clear g5 ga g2 HN g7 g8 g9 HB;go_wp2_with fail;go_ret;exact g3.o _ gc.o
theorem Ps {o:Own}{s:A4}(h:Ao o w sb d s)(hlt:Ac o w)(hl:AD d (Aj d))(ha:Acy (Aa d) rk)(f:Nat){b:BN}(hx:Aa d (enode f)=some b)
 (htop:∀ y b,Aa d y=some b->Aj d y<1099511627776) (hpos:1<=Aj d (enode f)) (hcn:∀ y b,Aa d y=some b->Ai d y<=2199023255552) :
 Cl 163 #[Pt sb,Iv f] w (Dq o w sb d s f (-1)):=by
 obtain⟨c0,c1,c2,c3,c4,f0⟩:=cells5 h.blk;have lsb:sb<w.heap.size:=Af c0;have g9:okE (Aa d) f:=.inr ⟨b,hx⟩;have hf:f<eMax:=by have:=h.edge_lt g9;unfold eMax;omega
 have g0:=BJ hx;have g3:=h.tk_lt hx;have gx:(d.pool.nd (enode f)).refs<1099511627776:=by have:=htop _ _ hx;rw[CG g0.1] at this;omega
 have hid:(d.pool.nd (enode f)).id=enode f:=h.pool.id _ g0.1;have ga:(decide (enode f=0)||d.pool.tk (enode f))=true:=by rw[g0.1];simp
 have gr:Hq (∀ W:Wd,Bw w W->Cl 198 #[Pt sb,Iv f] W (Bl (.bool true) W)):=fun W hb=>by
  have h1:=DR (h.below hlt hb) (hlt.mono hb.size) f hf;rw[ga] at h1;exact h1
 have g2:Hq (∀ W:Wd,Bw w W->Cl 228 #[Pt s.pb,Iv (enode f:Nat)] W (Bl (.tuple #[An (d.pool.has (enode f)),.bool (d.pool.tk (enode f))]) W)) :=
  Hd (fun W hb=>CX o s.pb d.pool (enode f) W (h.pool.below hb hlt) (hlt.mono hb.size))
 have gt:Hq (∀ W:Wd,Bw w W->W.cell? (Aw sb 1)=some (Pt s.pb)):=Hd (fun W hb=>(hb.cell (p:=Aw sb 1) lsb).trans c1);have HN:=Hd (fun W=>BE f W hf);obtain⟨r,hr⟩:=Ex ((d.pool.nd (enode f)).refs);have gH:1<=r:=by rw[CG g0.1] at hpos;omega
 have gc:Hq (∀ W:Wd,Bw w W->Cl 224 #[Pt s.pb,An ((d.pool.nd (enode f)).ref (r-1))] W fun x w'=>x=.returned (Iv 0)/\Ao o w' sb { d with pool:=d.pool.setNd (enode f) ((d.pool.nd (enode f)).ref (r-1)) } s/\Chg Al o o w w'/\Ac o w'):=fun W hb=>by
  have gz:d.pool.tk ((d.pool.nd (enode f)).ref (r-1)).id=true:=by show d.pool.tk (d.pool.nd (enode f)).id=true;rw[hid];exact g0.1
  refine(GD o s.pb d.pool ((d.pool.nd (enode f)).ref (r-1)) W (h.pool.below hb hlt) (hlt.mono hb.size) gz).mono ?_;rintro e w' ⟨rfl,hp,hc,g6⟩;have e1:((d.pool.nd (enode f)).ref (r-1)).id=enode f:=hid;rw[e1] at hp;exact⟨rfl,(h.below hlt hb).setPool (hlt.mono hb.size) hp (hc.mono (fun r hr=>by simp[Br,hr])),(Chg.of_below hb _ _).trans (hc.mono GZ),g6⟩
 have g8:Hq (∀ (W:Wd),Ao o W sb { d with pool:=d.pool.setNd (enode f) ((d.pool.nd (enode f)).ref (r-1)) } s->Ac o W->Chg Al o o w W ->
  Cl 226 #[Pt sb,Iv f] W fun e w'=>e=.returned (.tuple #[])/\Dq o w sb d s f (-1) (.returned (Iv 0)) w'):=fun W hs g6 gC=>by
  have g4:=Ia (d:=d) (k:=r-1) g3.2.1 g0.1
  refine(GX o sb s rk (rk (enode f)+1) W _ (Aj d) f ⟨hs,g6,by rw[g4];exact ha,by rw[g4];exact g9,Ky g3.2.1 g0.1 hl,fun y q hq=>hcn y q (by rw[g4] at hq;exact hq),fun y q hq=>(by
   rw[g4] at hq
   by_cases e:enode f=y
   ·subst e;have h1:Aj d (enode f)=(r:Int):=by rw[CG g0.1,hr]
    have h2:toE f (enode f)=1:=DN f;rw[h1,h2];omega
   ·have h1:toE f y=0:=Vs e;have h2:0<=Aj d y:=by unfold Aj;split<;>omega
    rw[h1];omega),.inr (Nat.lt_succ_self _)⟩).mono ?_
  rintro e w' ⟨cs,dd,rfl,gw,gy,gB,_,_,gi⟩;refine⟨rfl,_,rfl,gw,g6.mono gi.size,⟨rfl,rfl,rfl,g4,rfl,rfl,rfl,by simp[Ae.cd,Ad.setNd],gB,fun i hi=>?_,gy.congr (fun y b' hb'=>?_)⟩,gC.trans (gi.mono GY)⟩
  ·show Aj { d with pool:=d.pool.setNd (enode f) ((d.pool.nd (enode f)).ref (r-1)) } i=_
   rw[FB g3.2.1 g0.1];dsimp only;unfold toE
   by_cases e:i=enode f
   . have e':f/2=i:=e.symm;rw[Vw e,Vw e',e,CG g0.1,<- hr];omega
   ·have e':¬ f/2=i:=fun h'=>e h'.symm
    rw[Vs e,Vs e'];omega
  ·show Aj { d with pool:=d.pool.setNd (enode f) ((d.pool.nd (enode f)).ref (r-1)) } y=_
   rw[FB g3.2.1 g0.1];dsimp only;unfold addE toE
   by_cases e:y=enode f
   . have e':f/2=y:=e.symm;rw[Vw e,Vw e',e,CG g0.1,<- hr];omega
   ·have e':¬ f/2=y:=fun h'=>e h'.symm
    rw[Vs e,Vs e'];omega
 have go:d.pool.has (enode f)=d.pool.nd (enode f):=g0.2.1;rw[go] at g2;have gd:Hq (An ((d.pool.nd (enode f)).ref (r-1))=.agg #[Iv (d.pool.nd (enode f)).id,Iv (d.pool.nd (enode f)).v,Iv (d.pool.nd (enode f)).lo,Iv (d.pool.nd (enode f)).hi,Iv ((r:Int)-1)]):=by
  show _=_
  unfold An RN.ref;dsimp only;rw[show ((r-1:Nat):Int)=(r:Int)-1 from by omega]
 rw[g0.1] at g2;rw[<- hr] at gx;obtain⟨N,hN⟩:=Ex (d.pool.nd (enode f));have gn:N.refs=r:=by rw[hN,hr]
 rw[<- hN] at g2 gd gc g8;obtain⟨B,hB⟩:=Ex true;rw[<- hB] at g2;obtain⟨k,hk⟩:=Ex (enode f);rw[<- hk] at g2 HN;have gu:=Hd hB;have gq:=Hd gn;have gI:=Hd hk;clear h hlt hl ha hx htop hf g0 ga g3 hid hr go hN hB hk g9 c0 c1 c2 c3 c4 f0 lsb gn hpos hcn
 go_enter func163,ntmps163
 go_wp2_with fail;refine(gr.o _ (VI _ _)).mono ?_;rintro x w1 ⟨rfl,gl⟩;have gG:=Hd gl;clear gl gr;go_upto_region 5 with fail;refine D6 (w0:=w) (N:=N) (v0:=Pt sb) (v1:=Pt sb) (v2:=.pointer (some (Aw sb 1))) (v3:=Pt s.pb) (v4:=Iv f) (v5:=Iv k) (v6:=.tuple #[An N,.bool B]) (v7:=.tuple #[An N,.bool B]) (v8:=An N) (v9:=.bool B) (v12:=.bool B) rfl (by kernel_rfl) (by kernel_rfl) ⟨⟨rfl,rfl,rfl,rfl,rfl,rfl,rfl⟩,rfl,rfl,rfl,rfl,rfl,rfl⟩ rfl (by decide) (Cg gG.o 1) (fun W _=>HN.o W) (fun W hb=>g2.o W hb) (fun W hb=>?_) (fun x W=>?_) (fun x W X hX=>?_) (fun a W=>?_) (fun bx W Y hz hY=>?_) (fun bx W3 gA gk ge=>?_)
 . have gj:=gt.o W hb;simp only[Ab];refine⟨?_,?_,?_,?_,?_⟩<;>go_simp
 . simp only[Ab];refine⟨?_,?_⟩<;>go_simp
 . subst hX;simp only[Ab];unfold An;refine⟨?_,?_,?_⟩<;>go_simp
 . go_simp
 . subst hY;obtain⟨e0,e1,e2,e3,e4,fz⟩:=cells5 hz;simp only[Ab];unfold An;refine⟨⟨_,_,_,rfl,Dj (k:=0) fz e0 e1 e2 e3 e4 _ _ _ _ _⟩,fun W=>?_⟩;go_simp
 simp only[Ab];unfold An;obtain rfl:B=true:=gu.o;have g1:=ge;unfold GT at g1;rw[gq.o] at g1;have gp:=Hd g1;have gv:=Hd gk;obtain⟨y0,y1,y2,y3,y4,yz⟩:=cells5 g1;clear ge g1 gk gq g2 HN gu;go_upto_region 11 with fail;have g5:=A2 (k:=4) gp.o (Iv ((r:Int)-1));have g7:Bw w (W3.setCell (Aw bx 4) (Iv ((r:Int)-1))):=gv.o.setCell (p:=Aw bx 4) gA _;obtain⟨W4,gm⟩:∃ W,W=W3.setCell (Aw bx 4) (Iv ((r:Int)-1)):=⟨_,rfl⟩;rw[<- gm] at g5 g7 ⊢;clear gm gp gv y0 y1 y2 y3 y4 yz;simp at g5;obtain⟨z0,z1,z2,z3,z4,zz⟩:=cells5 g5;have gj:=gt.o _ g7;refine AJ (fun w'=>w'=W4.drew) true 5 [(0,false),(1,false),(2,false),(3,false),(4,false),(5,true)] (by kernel_rfl) (by kernel_rfl) rfl ?_;simp only[planned,AH]
 iterate 5
  refine Aq rfl ?_;apply Exists.intro;refine⟨fun w' hw=>?_,?_⟩
  . subst hw;go_simp;rfl
  simp only[Ab]
 refine Di rfl (fun K hK=>?_);unfold Oper.wp;go_simp;rw[<- gd.o];refine(gc.o _ (Cg g7 1)).mono ?_;rintro x w5 ⟨rfl,gf,gh,gg⟩;refine hK _ _ (Cm ?_);have gD:=Hd gf;have gF:=Hd gh;have gE:=Hd gg;clear gf gh gg g5 g7 z0 z1 z2 z3 z4 zz gj;go_wp2_with fail;refine(g8.o _ gD.o gE.o gF.o).mono ?_;rintro x w6 ⟨rfl,hp⟩;have HP:=Hd hp;clear hp;go_wp2_with fail;go_ret;exact HP.o
structure Kz (p p':Ad)(id:Nat)(n:RN):Prop where
 get:∀ i,p'.get i=if i=id then some { n with id:=id } else p.get i
 none:p.tk id=false
 pos:0<id
 lt:id<p'.at_.length
 le:p.at_.length<=p'.at_.length
 many:p'.many=p.many+1
 room:p'.room=p.room
theorem Pu (o:Own)(pb:Nat)(p:Ad)(n:RN)(w:Wd)(h:Ap o w pb p)(hlt:Ac o w) :
 Cl 264 #[Pt pb,An n] w fun x w'=>(p.many=p.room/\x=.returned (.tuple #[Iv 0,Iv 7])/\Bw w w') \/
  (∃ id p' o',x=.returned (.tuple #[Iv (id:Nat),Iv 0])/\Ap o' w' pb p'/\Kz p p' id n/\Chg Br o o' w w'/\Ac o' w'):=by
 rcases List.eq_nil_or_concat p.free with hf|⟨fs,id,hf⟩
 ·by_cases hr:p.at_.length<=p.room
  . refine(Ow o pb p n w h hlt hf hr).mono ?_;rintro e w' ⟨rfl,o',h1,h2,h3⟩;refine .inr ⟨_,_,o',rfl,h1,⟨fun i=>Ad.fresh_get h.len i,?_,h.pos,by simp[Ad.fresh],by simp[Ad.fresh],rfl,rfl⟩,h2,h3⟩;simp[Ad.tk,List.getD,VN (Nat.le_of_eq h.len)]
  . refine(Ov o pb p n w h hf (by omega)).mono ?_;rintro e w' ⟨rfl,hb⟩;refine .inl ⟨?_,rfl,hb⟩;have h1:=h.many;have h2:=h.top;rw[hf] at h1;simp at h1;omega
 . rw[List.concat_eq_append] at hf;have hm:=h.free id (by rw[hf];simp);refine(Ou o pb p n fs id w h hlt hf).mono ?_;rintro e w' ⟨rfl,h1,h2,h3⟩;exact .inr ⟨id,_,o,rfl,h1,⟨fun i=>Ad.reuse_get hm.2.1 (by rw[h.len];exact hm.2.1) i,hm.2.2,hm.1,by simp[Ad.reuse];exact hm.2.1,by simp[Ad.reuse],rfl,rfl⟩,h2,h3⟩
structure D7 (d d':Ae)(id v lo hi:Nat):Prop where
 vars:d'.vars=d.vars
 level:d'.level=d.level
 tab:d'.tab=fun u=>if u=v then putF (d.tab v) (lo,hi) (some id) else d.tab u
 nodes:Aa d'=addN (Aa d) id ⟨v,lo,hi⟩
 none:Aa d id=none
 pos:0<id
 many:d'.pool.many=d.pool.many+1
 room:d'.pool.room=d.pool.room
 ext:Aj d'=fun i=>if i=id then 0 else Aj d i
 live:AD d' (Aj d')
 clen:d'.counts.length<=1048578
 cnt:Ai d'=setC (Ai d) id 0
def Pv (o:Own)(w:Wd)(sb:Nat)(d:Ae)(v lo hi:Nat)(e:Ending)(w':Wd):Prop :=
 (d.pool.many=d.pool.room/\e=.returned (.tuple #[Iv 0,Iv 7])/\Bw w w') \/
 (∃ id d' o',e=.returned (.tuple #[Iv (id:Nat),Iv 0])/\Az o' w' sb d'/\Ac o' w'/\D7 d d' id v lo hi/\Chg Al o o' w w')
theorem Pw {c:Nat->Nat}{b:BN}(hlt:∀ i b,N i=some b->i<k)(hk:k<=k')(hf:N id=none)(hid:id<k'):Ba k' (addN N id b) (setC c id 0)=Ba k N c+1:=by
 unfold Ba;rw[CQ (f:=dead1 N c) (j:=id) (fun i hi=>?_) k' hid]
 ·rw[JR (k:=k) (fun i hi=>?_) hk]
  . simp[dead1,hf,BW,setC]
  ·unfold dead1;cases e:N i with
   | none=>rfl
   | some b'=>exact absurd (hlt i b' e) (by omega)
 . unfold dead1;rw[Bk _ hi];simp only[setC,Vs hi]
section
variable {o:Own}{s:A4}
theorem Ao.setVc (h:Ao o w sb d s)(hlt:Ac o w){cs:List Nat}(hr:RowR o' w' .counts 3 1 v cs.length (cs.map nat64))(hc:Chg (· = .counts) o o' w w'):Ao o' (w'.setCell (Aw sb 3) v) sb (d.cd cs d.dead) { s with vc:=v }:=by
 have g0:=hc.ext _ _ h.own;have ne:∀ {b r},o' b=some r->r ≠ .store->b≠sb:=fun hb hr e=>by subst e;rw[g0] at hb;cases hb;exact hr rfl
 have k1:∀ {b r},o' b=some r->r ≠ .store->(w'.setCell (Aw sb 3) v).heap[b]?=w'.heap[b]?:=fun hb hr=>Ay (ne hb hr) _
 refine⟨g0,hc.ext _ _ h.ownl,A2 (k:=3) ((hc.same hlt h.own (by simp)).trans h.blk) _,(k1 (hc.ext _ _ h.ownl) (by simp)).trans ((hc.same hlt h.ownl (by simp)).trans h.lev),
  (h.vars.chg hc hlt (by simp)).keep (fun g hg=>k1 hg (by simp)) (fun _ h=>h),(h.level.chg hc hlt (by simp)).keep (fun g hg=>k1 hg (by simp)) (fun _ h=>h),
  (h.pool.chg hc hlt (by simp) (by simp) (by simp) (by simp)).keep (fun g r hg hr=>k1 hg (by rcases hr with rfl|rfl|rfl|rfl<;>simp)) (fun _ _ h=>h),
  (h.tabs.chg hc hlt (by simp)).keep (fun g hg=>k1 hg (by simp)) (fun _ h=>h),
  fun u hu=>((h.tab u hu).chg hc hlt (by simp) (by simp)).keep (fun g r hg hr=>k1 hg (by rcases hr with rfl|rfl<;>simp)) (fun _ _ h=>h),
  hr.keep (fun g hg=>k1 hg (by simp)) (fun _ h=>h),h.len,h.tlen⟩
end
theorem Ao.tabAt {o:Own}{s:A4}(h:Ao o w sb d s){v:Nat}(hv:v<d.vars.length):∃ gt cap,s.vt=.slice (some (Av gt)) s.ts.length cap/\w.cell? (Aw gt v)=some (.pointer (some ⟨s.ts.getD v 0,0,none⟩))/\v<s.ts.length/\s.ts.length<=9223372036854775807:=by
 have g0:v<s.ts.length:=by rw[h.tlen];exact hv
 obtain⟨gt,cap,g1,_,h1,h2⟩:=h.tabs.shape (by omega);have hr:=h.tabs;rw[g1] at hr;refine⟨gt,cap,g1,?_,g0,by unfold maxLen at h2;omega⟩;rw[hr.cell v (by simpa using g0),WP,VA g0];simp[ptrV,List.getD,g0]
structure AddS (o:Own)(w:Wd)(sb:Nat)(d:Ae)(ts:List Nat)(vt:Value)(o1:Own)(wx:Wd):Prop where
 st:∃ s,Ao o1 wx sb d s/\s.ts=ts/\s.vt=vt
 lt:Ac o1 wx
 chg:Chg Al o o1 w wx
theorem Px:(prog.info? 3).map (fun i=>(i.zero,i.size,i.bytes))=some (some (Iv 0),1,8):=by kernel_rfl
def padC (cs:List Nat)(j:Nat):List Nat:=cs++List.replicate j 0
theorem Py (cs:List Nat)(j:Nat):padC cs (j+1)=padC cs j++[0]:=by unfold padC;rw[List.replicate_succ',VH]
theorem EI (cs:List Nat)(j:Nat):(padC cs j).length=cs.length+j:=by simp[padC]
theorem Pz (cs:List Nat)(j i:Nat):(padC cs j).getD i 0=cs.getD i 0:=by
 unfold padC;simp only[List.getD,List.getElem?_append];split
 . rfl
 ·rename_i h
  rw[VN (l:=cs) (by omega),Yd];split<;>rfl
def Ae.added (d:Ae)(p':Ad)(cs:List Nat)(id v lo hi:Nat):Ae:=⟨d.vars,d.level,p',fun u=>if u=v then putF (d.tab v) (lo,hi) (some id) else d.tab u,cs.set id 0,d.dead+1⟩
theorem P0 {p':Ad}{v:Nat}(hl:AD d (Aj d))(hok:∀ i b,Aa d i=some b->okE (Aa d) b.lo/\okE (Aa d) b.hi)(hr:Kz d.pool p' id ⟨0,v,lo,hi,0⟩)
 (hid:id<(padC d.counts j).length) (hcl:(padC d.counts j).length<=1048578):D7 d (d.added p' (padC d.counts j) id v lo hi) id v lo hi:=by
 have g0:Aa d id=none:=by unfold Aa Ad.get;rw[Vs (by rw[hr.none];simp)];rfl
 have g1:Aa (d.added p' (padC d.counts j) id v lo hi)=addN (Aa d) id ⟨v,lo,hi⟩:=by
  funext i;unfold Aa Ae.added;dsimp only;rw[hr.get]
  by_cases e:i=id
  . subst e;rw[Vw rfl,BW];rfl
  . rw[Vs e,Bk _ e]
 have g4:∀ i,p'.tk i=if i=id then true else d.pool.tk i:=fun i=>by
  have h1:=hr.get i;unfold Ad.get at h1
  by_cases e:i=id
  ·rw[Vw e] at h1 ⊢;split at h1
   . assumption
   . cases h1
  ·rw[Vs e] at h1 ⊢
   by_cases h2:p'.tk i=true<;>by_cases h3:d.pool.tk i=true<;>simp[h2,h3] at h1 ⊢
 have g3:Aj (d.added p' (padC d.counts j) id v lo hi)=fun i=>if i=id then 0 else Aj d i:=by
  funext i;unfold Aj;have h1:=hr.get i
  show (if p'.tk i=true then ((p'.nd i).refs:Int) else 0)=_
  rw[g4];unfold Ad.get at h1;rw[g4] at h1
  by_cases e:i=id
  . rw[Vw e] at h1;simp only[e,Wy] at h1 ⊢;have h2:=Xp h1;rw[h2];rfl
  ·rw[Vs e] at h1;simp only[Vs e] at h1 ⊢
   by_cases h3:d.pool.tk i=true
   . rw[Vw h3,Vw h3] at h1;rw[Vw h3,Vw h3,Xp h1]
   . rw[Vs h3,Vs h3]
 have g2:Ai (d.added p' (padC d.counts j) id v lo hi)=setC (Ai d) id 0:=by
  funext i;unfold Ai setC Ae.added;dsimp only
  by_cases e:i=id
  . subst e;rw[Vw rfl];simp[List.getD,hid]
  . rw[Vs e,<- Pz d.counts j i];simp only[List.getD,VY,Vs (Wn e)]
 have g5:id≠0:=by have:=hr.pos;omega
 refine⟨rfl,rfl,rfl,g1,g0,hr.pos,hr.many,hr.room,g3,⟨?_,?_,fun i b hb=>?_⟩,by simpa [Ae.added] using hcl,g2⟩
 ·rw[g1,g2,g3]
  show Cnt p'.at_.length _ _ _
  refine Cnt.add (hl.cnt.weaken hr.le) g0 (fun i bi hb=>?_) hr.lt;have h1:=hok i bi hb;constructor
  ·rcases h1.1 with h2|⟨c,h2⟩
   . omega
   . intro e;rw[e,g0] at h2;cases h2
  ·rcases h1.2 with h2|⟨c,h2⟩
   . omega
   . intro e;rw[e,g0] at h2;cases h2
 ·rw[g1,g2]
  show ((d.dead+1:Nat):Int)=Ba p'.at_.length _ _
  rw[Pw hl.cnt.lt hr.le g0 hr.lt,<- hl.dead];omega
 ·rw[g1] at hb
  show i<((padC d.counts j).set id 0).length
  rw[VQ]
  by_cases e:i=id
  . subst e;exact hid
  . rw[Bk _ e] at hb;have:=hl.has i b hb;rw[EI];omega
theorem K0 {o:Own}{s:A4}(h:Ao o w sb d s)(hlt:Ac o w)(hl:AD d (Aj d))(hok:∀ i b,Aa d i=some b->okE (Aa d) b.lo/\okE (Aa d) b.hi)
 (v lo hi:Nat) (hv:v<d.vars.length) (ht:d.tab v (lo,hi)=none) (hcl:d.counts.length<=1048578) :
 Cl 248 #[Pt sb,Iv v,Iv lo,Iv hi] w (Pv o w sb d v lo hi):=by
 obtain⟨c0,c1,c2,c3,c4,f0⟩:=cells5 h.blk;have gh:=Hd (Pu o s.pb d.pool ⟨0,v,lo,hi,0⟩ w h.pool hlt);have h9:Hq (An ⟨0,v,lo,hi,0⟩=.agg #[Iv 0,Iv v,Iv lo,Iv hi,Iv 0]):=rfl;have HH:=Hd h;have hd:=Hd hlt;have gP:=Hd (fun p' id j hr h1 h2=>P0 (p':=p') (id:=id) (v:=v) (lo:=lo) (hi:=hi) (j:=j) hl hok hr h1 h2);have gA:Hq (d.dead<=1048577):=by
  show _<=_
  have h1:=hl.dead;have h2:=EE (f:=dead1 (Aa d) (Ai d)) (B:=1) d.pool.at_.length (fun i _=>by unfold dead1;split<;>first|omega|(split<;>omega));have h3:Ba d.pool.at_.length (Aa d) (Ai d)=Ag d.pool.at_.length (dead1 (Aa d) (Ai d)):=rfl;have h4:=h.pool.top;have h5:=h.pool.room;omega
 have HV:=Hd hv;have HT:=Hd ht;clear h hlt hl hok hv ht
 go_enter func248,ntmps248
 go_wp2_with fail;rw[<- h9.o];refine gh.o.mono ?_;rintro x w1 (⟨hm,rfl,hb⟩|⟨id,p',o1,rfl,hp,hr,hc,g7⟩)
 ·have HM:=Hd hm;have HB:=Hd hb;clear hm hb;go_wp2_with fail
  go_ret2
  exact .inl ⟨HM.o,rfl,HB.o⟩
 ·have st1:=HH.o.setPool hd.o hp hc;have gU:=hp.tk_lt (i:=id) (by have h1:=hr.get id;unfold Ad.get at h1;rw[Vw rfl] at h1;split at h1;(· assumption);cases h1);have gS:=hp.top;have gT:=hp.room;have gJ:Hq (AddS o w sb { d with pool:=p' } s.ts s.vt o1 w1):=⟨⟨s,st1,rfl,rfl⟩,g7,hc.mono (fun r hr=>by simp[Al,hr])⟩;have HR:=Hd hr;have hw:id<=1048577:=by omega
  clear hp hr hc g7 st1 gh gU gS gT c0 c1 c2 c3 c4 f0;go_wp2_with fail
  go_loopg [] (id+1-d.counts.length) (fun gk wx=>∃ (j:Nat) (o2:Own),AddS o w sb { d with pool:=p',counts:=padC d.counts j } s.ts s.vt o2 wx/\j+gk=id+1-d.counts.length)
  case atStart=>exact⟨0,o1,by have e:padC d.counts 0=d.counts:=by { simp[padC] };rw[e];exact gJ.o,by omega⟩
  case round =>
   obtain⟨j,o2,hS,hj⟩:=hrel;obtain⟨⟨s2,g0,gm,g4⟩,ge,gg⟩:=hS;clear gJ;obtain⟨c0,c1,c2,c3,c4,f0⟩:=cells5 g0.blk;have lsb:sb<wr.heap.size:=Af c0;have g6:(padC d.counts j).length<=1048578:=by rw[EI];omega
   have g9:=Hd g0;have gi:=Hd ge;have gL:=Hd gg;have h6:=Hd gm;have gZ:=Hd g4
   by_cases hlt:(padC d.counts j).length<=id
   ·obtain⟨a,cap,hv,hA,gI,hq,_⟩:=g0.counts.slice;have g3:s2.vc=.slice a (padC d.counts j).length cap:=hv;rw[g3] at c3;have HJ:=Hd hj;have gy:RowR o2 wr .counts 3 1 (.slice a (padC d.counts j).length cap) (padC d.counts j).length ((padC d.counts j).map nat64):=by have:=g0.counts;rw[g3] at this;exact this
    have hz:0<gk:=by rw[EI] at hlt;omega
    have gd:((padC d.counts j).length:Int)<=id:=by omega
    obtain⟨cl,g2⟩:∃ n,n=(padC d.counts j).length:=⟨_,rfl⟩;rw[<- g2] at g6 hlt gd c3 gy;have gQ:=Hd gy;have hh:=Hd g2;clear g0 ge gg gm g4 hv g3 gy hj g2
    go_wp2_with (at_builtin
                 refine E9 22 3 1 8 _ underlying22 Px rfl (by decide) rfl _ _ rfl rfl rfl rfl (by simp) rfl (fun u hu=>by simp at hu;subst hu;rfl) gQ.o gi.o (by omega) (by decide) ?_;intro g1 k1 w2 o3 gD gu g7;obtain⟨q0,q1,q2,q3,q4,fq⟩:=cells5 ((gu.same gi.o g9.o.own (by simp)).trans g9.o.blk);have ha:=Hd gD;have gz:=Hd gu;have hf:=Hd g7;clear gD gu g7 c0 c1 c2 c3 c4 f0)
    have go:=ha.o;rw[show (padC d.counts j).map nat64++(#[Value.int .i64 0]:Array Value).toList=(padC d.counts (j+1)).map nat64 from by rw[Py,VU];rfl] at go;have e1:cl+1=(padC d.counts (j+1)).length:=by rw[hh.o,EI,EI];omega
    have gO:=Hd (g9.o.setVc (cs:=padC d.counts (j+1)) gi.o (by rw[<- e1];exact go) gz.o);have h8:Hq (AddS o w sb { d with pool:=p',counts:=padC d.counts (j+1) } s.ts s.vt o3 (w2.setCell (Aw sb 3) (.slice (some (Av g1)) (cl+1) k1))):=⟨⟨_,gO.o,h6.o,gZ.o⟩,hf.o.mono (by simp[World.setCell]),(gL.o.trans (gz.o.mono (fun r hr=>by simp[Al,hr]))).setCell (p:=Aw sb 3) (gz.o.ext _ _ g9.o.own) (.inl rfl) _⟩;clear go e1
    go_roundg (gk-1)
    case measure=>omega
    case rel=>exact⟨j+1,o3,h8.o,by have:=HJ.o;omega⟩
   ·have g5:id<(padC d.counts j).length:=by omega
    have gd:(id:Int)<(padC d.counts j).length:=by omega
    obtain⟨gc,cap,gj,gF,gp,gV,gI,gG,gf⟩:=g0.countsAt g5;have g3:s2.vc=.slice (some (Av gc)) (padC d.counts j).length cap:=gj;rw[g3] at c3;have gY:=gf _ g5;have gX:=gG id;have gM:sb≠gc:=fun e=>gp e.symm
    have st3:=g0.setCount gj gp id 0;have lt3:Ac o2 (wr.setCell (Aw gc id) (Iv ((0:Nat):Int))):=ge.mono (by simp[World.setCell]);have st4:=st3.setDead lt3 (d.dead+1);have lt4:Ac o2 ((wr.setCell (Aw gc id) (Iv ((0:Nat):Int))).setCell (Aw sb 4) (Iv ((d.dead+1:Nat):Int))):=lt3.mono (by simp[World.setCell]);have ch4:=(gg.setCell (p:=Aw gc id) gF (by simp[Al]) (Iv ((0:Nat):Int))).setCell (p:=Aw sb 4) g0.own (by simp[Al]) (Iv ((d.dead+1:Nat):Int));have gH:d.dead<=1048577:=gA.o;have g8:(padC d.counts j).length<=9223372036854775807:=by omega
    obtain⟨W4,gv⟩:∃ W,W=(wr.setCell (Aw gc id) (Iv ((0:Nat):Int))).setCell (Aw sb 4) (Iv ((d.dead+1:Nat):Int)):=⟨_,rfl⟩;rw[<- gv] at st4 lt4 ch4;have gw:Hq (W4=(wr.setCell (Aw gc id) (Iv 0)).setCell (Aw sb 4) (Iv ((d.dead:Int)+1))):=by
     show _=_
     rw[gv,show ((d.dead+1:Nat):Int)=(d.dead:Int)+1 from by omega];rfl
    have ga:=Hd st4;have gK:=Hd lt4;have hn:=Hd ch4;have hg:=Hd g5;obtain⟨cl,g2⟩:∃ n,n=(padC d.counts j).length:=⟨_,rfl⟩;rw[<- g2] at gd c3 g6 g8;have gR:Hq ((padC d.counts j).length<=1048578):=by show _<=_;omega
    obtain⟨dn,gq⟩:∃ n,n=d.dead:=⟨_,rfl⟩;have c4':wr.cell? (Aw sb 4)=some (Iv (dn:Nat)):=by rw[gq];exact c4
    rw[<- gq] at gH gw;clear g0 ge gg gm g4 gj gF gp gV gI gG gf g3 st3 lt3 st4 lt4 ch4 gv hlt g5 c4 g2 gq g9 gi gL hj;have gN:¬ ((cl:Int)<=id):=by omega
    go_upto_region 8 with fail;rw[<- gw.o];clear gw c0 c1 c2 c3 c4' f0 gY gX gM gd gN gH g6 g8;obtain⟨c0,c1,c2,c3,c4,f0⟩:=cells5 ga.o.blk;obtain⟨gt,ct,g4,cellv,gB⟩:=ga.o.tabAt (v:=v) HV.o;rw[g4] at c2;have gC:=ga.o.tab v (by rw[ga.o.tlen];exact HV.o);have gx:=Hd (Kg o2 v (s2.ts.getD v 0) (d.tab v) lo hi id W4 gC gK.o HT.o);have ho:(v:Int)<s2.ts.length:=by omega
    obtain⟨tv,gl⟩:∃ t,t=s2.ts.getD v 0:=⟨_,rfl⟩;rw[<- gl] at cellv gx;have h0:=Hd gl;have hy:s2.ts.length<=9223372036854775807:=gB.2;clear gC gl g4 gB;go_wp2_with fail;refine gx.o.mono ?_;rintro x w5 ⟨rfl,gn,gr,gE⟩;rw[h0.o] at gn;have h7:=Hd (ga.o.setTab gK.o gn gr);have he:=Hd gE;have hk:=Hd (hn.o.trans (gr.mono (fun r hr=>by simp[Al,hr])));clear gn gr gE c0 c1 c2 c3 c4 f0 cellv;go_wp2_with fail
    go_ret2
    exact .inr ⟨id,d.added p' (padC d.counts j) id v lo hi,o2,rfl,⟨s2,h7.o⟩,he.o,gP.o p' id j HR.o hg.o gR.o,hk.o⟩
def levN (d:Ae)(v:Nat):Nat:=d.level.getD v 0
structure Ak (d:Ae)(V:Nat->BF):Prop where
 dag:Dag d.vars.length (levN d) (Aa d) V
 live:AD d (Aj d)
 tab:∀ v,v<d.vars.length->∀ lo hi id,d.tab v (lo,hi)=some id↔Aa d id=some ⟨v,lo,hi⟩
 clen:d.counts.length<=1048578
 small:d.vars.length<=64
 inv:∀ v,v<d.vars.length->d.vars.getD (levN d v) 0=v
 vlt:∀ i,i<d.vars.length->d.vars.getD i 0<d.vars.length/\levN d (d.vars.getD i 0)=i
structure Ext (d:Ae)(V:Nat->BF)(d':Ae)(V':Nat->BF):Prop where
 vars:d'.vars=d.vars
 level:d'.level=d.level
 room:d'.pool.room=d.pool.room
 nodes:∀ i b,Aa d i=some b->Aa d' i=some b
 val:∀ i,(i=0\/∃ b,Aa d i=some b)->V' i=V i
 ext:∀ i b,Aa d i=some b->Aj d' i=Aj d i
 ext0:∀ i,Aa d i=none->Aj d' i=0
 many:d.pool.many<=d'.pool.many
theorem DT (h:Aa d i=none):Aj d i=0:=by unfold Aj;rw[GV h];simp
theorem Ext.refl (d:Ae)(V:Nat->BF):Ext d V d V:=⟨rfl,rfl,rfl,fun _ _ h=>h,fun _ _=>rfl,fun _ _ _=>rfl,fun _ h=>DT h,Vu _⟩
theorem Ext.trans {d d' d'':Ae}{V V' V'':Nat->BF}(h:Ext d V d' V')(h':Ext d' V' d'' V''):Ext d V d'' V'':=by
 refine⟨h'.vars.trans h.vars,h'.level.trans h.level,h'.room.trans h.room,fun i b hb=>h'.nodes i b (h.nodes i b hb),fun i hi=>?_,fun i b hb=>?_,fun i hi=>?_,Vy h.many h'.many⟩
 . rw[h'.val i (hi.imp id fun⟨b,hb⟩=>⟨b,h.nodes i b hb⟩)];exact h.val i hi
 . rw[h'.ext i b (h.nodes i b hb)];exact h.ext i b hb
 ·cases e:Aa d' i with
  | none=>exact h'.ext0 i e
  | some b=>rw[h'.ext i b e];exact h.ext0 i hi
section
theorem Ext.ok (h:Ext d V d' V')(he:okE (Aa d) e):okE (Aa d') e:=he.imp id fun⟨b,hb⟩=>⟨b,h.nodes _ b hb⟩
theorem Ext.ef (h:Ext d V d' V'){e:Nat}(he:okE (Aa d) e):ef V' e=ef V e:=by
 funext ρ;unfold Go.Proofs.YtkidaindpahefaaGreat.ef;rw[h.val (e/2) he]
theorem Ext.lev (h:Ext d V d' V'):levN d'=levN d:=by funext v;unfold levN;rw[h.level]
theorem Ext.lvE (h:Ext d V d' V'){n:Nat}{e:Nat}(he:okE (Aa d) e)(h0:Aa d 0=none)(h0':Aa d' 0=none):lvE n (levN d') (Aa d') e=lvE n (levN d) (Aa d) e:=by
 unfold Go.Proofs.YtkidaindpahefaaGreat.lvE;rw[h.lev];rcases he with he|⟨b,hb⟩
 . rw[he,h0,h0']
 . rw[hb,h.nodes _ b hb]
theorem P1 {v:Nat}(h:Ak d V)(r:D7 d d' id v lo hi)(hv:v<d.vars.length)(hlo:okE (Aa d) lo)(hhi:okE (Aa d) hi)
 (llo:levN d v<lvE d.vars.length (levN d) (Aa d) lo) (lhi:levN d v<lvE d.vars.length (levN d) (Aa d) hi) (hr:hi%2=0) (hne:lo≠hi) (ht:d.tab v (lo,hi)=none) :
 Ak d' (addV V id ⟨v,lo,hi⟩)/\Ext d V d' (addV V id ⟨v,lo,hi⟩):=by
 have g1:∀ i,Aa d i≠some ⟨v,lo,hi⟩:=fun i e=>by rw[(h.tab v hv lo hi i).2 e] at ht;cases ht
 have hl:levN d'=levN d:=by funext u;unfold levN;rw[r.level]
 have hid:id≠0:=by have:=r.pos;omega
 refine⟨⟨?_,r.live,fun u hu lo' g0 i=>?_,r.clen,by rw[r.vars];exact h.small,?_,?_⟩,⟨r.vars,r.level,r.room,fun i b hb=>?_,fun i g0=>?_,fun i b hb=>?_,fun i g0=>?_,by rw[r.many];omega⟩⟩
 . rw[r.vars,hl,r.nodes];exact h.dag.add r.none hid hv hlo hhi llo lhi hr hne g1
 ·rw[r.vars] at hu;rw[r.tab,r.nodes];dsimp only
  by_cases e:u=v
  ·subst e;rw[Vw rfl];unfold putF
   by_cases e2:(lo',g0)=(lo,hi)
   ·cases e2;rw[Vw rfl];constructor
    . intro e3;cases e3;rw[BW]
    ·intro e3
     by_cases e4:i=id
     . rw[e4]
     . rw[Bk _ e4] at e3;exact absurd e3 (g1 i)
   ·rw[Vs e2,h.tab u hu]
    by_cases e4:i=id
    ·subst e4;rw[BW,r.none];constructor
     . intro e5;cases e5
     . intro e5;cases e5;exact absurd rfl e2
    . rw[Bk _ e4]
  ·rw[Vs e,h.tab u hu]
   by_cases e4:i=id
   ·subst e4;rw[BW,r.none];constructor
    . intro e5;cases e5
    . intro e5;cases e5;exact absurd rfl e
   . rw[Bk _ e4]
 . rw[r.vars,hl];exact h.inv
 . rw[r.vars,hl];exact h.vlt
 . rw[r.nodes];exact G4 r.none hb
 ·unfold addV;rw[Vs];rintro rfl;rcases g0 with g0|⟨b,hb⟩
  . exact hid g0
  . rw[r.none] at hb;cases hb
 . rw[r.ext];dsimp only;rw[Vs];rintro rfl;rw[r.none] at hb;cases hb
 ·rw[r.ext];dsimp only;split
  . rfl
  . exact DT g0
theorem K1 (h:Ak d V){v:Nat}(hb:Aa d id=some ⟨v,eflip lo (eneg hi),eflip hi (eneg hi)⟩):ef V (eflip (2*id) (eneg hi))=iteF v (ef V hi) (ef V lo):=by
 funext ρ;have h1:=h.dag.eqn id _ hb;have h2:ef V (2*id)=V id:=by
  funext ρ;have e1:2*id/2=id:=by omega
  have e2:2*id%2=0:=by omega
  simp[ef,e1,e2]
 rw[Cv,h2,h1];simp only[iteF];rw[Cv,Cv];cases ρ v<;>cases eneg hi<;>simp
theorem K2 (hi:Nat):eflip hi (eneg hi)%2=0:=by
 unfold eflip eneg;rcases WL hi with h|h
 . simp[h]
 . simp[h,G5]
theorem FC {b:Bool}(h:lo≠hi):eflip lo b≠eflip hi b:=by
 unfold eflip;cases b
 . simpa using h
 . simp only[Wy];intro e;have:=Wo enot e;rw[JO,JO] at this;exact h this
theorem Dr {lev:Nat->Nat}{b:Bool}:lvE n lev N (eflip e b)=lvE n lev N e:=by unfold lvE;rw[CP]
end
def Cy (d:Ae)(v:Int):Int:=if 0<=v/\v<d.level.length then (levN d v.toNat:Nat) else -1
theorem P2 (d:Ae)(v:Nat):Cy d v=d.levelOf v:=by
 unfold Cy Ae.levelOf levN
 by_cases h:v<d.level.length
 . rw[Vw ⟨by omega,by omega⟩,Vw h];rfl
 . rw[Vs (by omega),Vs h]
theorem P3 {o:Own}{s:A4}(h:Ao o w sb d s)(v:Int)(hv:v<0) :
 Cl 195 #[Pt s.lb,Iv v] w (Sm (Iv (-1)) w):=by
 clear h
 go_enter func195,ntmps195
 go_wp2_with fail;go_ret;exact⟨rfl,rfl⟩
theorem P4 {o:Own}{s:A4}(h:Ao o w sb d s)(v:Int)(hv:v<0) :
 Cl 142 #[Pt sb,Iv v] w (Sm (Iv (-1)) w):=by
 obtain⟨c0,c1,c2,c3,c4,f0⟩:=cells5 h.blk;have HC:=Hd (P3 h v hv);clear h hv
 go_enter func142,ntmps142
 go_wp2_with fail;refine HC.o.mono ?_;rintro x w' ⟨rfl,rfl⟩;go_wp2_with fail;go_ret;exact⟨rfl,rfl⟩
theorem Ib {o:Own}{s:A4}(h:Ao o w sb d s)(v:Int)(hbig:d.level.length<1000000) :
 Cl 142 #[Pt sb,Iv v] w (Sm (Iv (Cy d v)) w):=by
 by_cases h0:v<0
 ·have e:Cy d v = -1:=by unfold Cy;rw[Vs (by omega)]
  rw[e];exact P4 h v h0
 . obtain⟨n,rfl⟩:=Int.eq_ofNat_of_zero_le (by omega:0<=v);have e:=P2 d n;rw[e];exact GR h n hbig
def Ic (o:Own)(w:Wd)(sb:Nat)(d:Ae)(V:Nat->BF)(v:Int)(lo hi:Nat)(e:Ending)(w':Wd):Prop :=
 (¬ (0<=v/\v<d.vars.length)/\e=.returned (.tuple #[Iv 0,Iv 9])/\Bw w w') \/
 (0<=v/\v<d.vars.length/\(lvE d.vars.length (levN d) (Aa d) lo<=levN d v.toNat\/lvE d.vars.length (levN d) (Aa d) hi<=levN d v.toNat)/\e=.returned (.tuple #[Iv 0,Iv 10])/\Bw w w') \/
 (d.pool.many=d.pool.room/\e=.returned (.tuple #[Iv 0,Iv 7])/\Bw w w') \/
 (0<=v/\v<d.vars.length/\∃ r d' V' o',e=.returned (.tuple #[Iv (r:Nat),Iv 0])/\Az o' w' sb d'/\Ac o' w'/\Ak d' V'/\Ext d V d' V'/\okE (Aa d') r /\
  ef V' r=iteF v.toNat (ef V hi) (ef V lo)/\levN d v.toNat<=lvE d.vars.length (levN d') (Aa d') r/\d'.pool.many<=d.pool.many+1/\Chg Al o o' w w')
theorem P5 {o:Own}{s:A4}(h:Ao o w sb d s)(hk:Ak d V)(hf:okE (Aa d) f)(hl:lv<d.vars.length) :
 (decide (enode f=0)||(d.pool.tk (enode f)&&decide ((lv:Int)<d.levelOf (d.pool.has (enode f)).v)))=decide (lv<lvE d.vars.length (levN d) (Aa d) f):=by
 unfold lvE;rcases hf with h0|⟨b,hb⟩
 . have e:enode f=0:=h0;rw[h0,hk.dag.none0,e];simp[hl]
 ·have hn:=BJ (i:=enode f) hb;have e0:enode f≠0:=by have:=(h.tk_lt (i:=enode f) hb).1;omega
  rw[hb,hn.1];have hv:(d.pool.has (enode f)).v=b.v:=by rw[<- hn.2.2];rfl
  have g0:=hk.dag.var _ _ hb;rw[hv];unfold Ae.levelOf;rw[Vw (by rw[h.len];exact g0)];simp[e0,levN]
theorem K3 (hf:okE (Aa d) f):(decide (enode f=0)||d.pool.tk (enode f))=true:=by
 rcases hf with h0|⟨b,hb⟩
 . have e:enode f=0:=h0;simp[e]
 . rw[(BJ (i:=enode f) hb).1];simp
theorem P6 {o:Own}{s:A4}(h:Ao o w sb d s)(hk:Ak d V)(v:Int)(lo hi:Nat)(hv:¬ (0<=v/\v<d.vars.length)) :
 Cl 199 #[Pt sb,Iv v,Iv lo,Iv hi] w (Ic o w sb d V v lo hi):=by
 have g0:=Hd (Ib h v (by rw[h.len];have:=hk.small;omega));have e:Cy d v = -1:=by unfold Cy;rw[Vs (by rw[h.len];exact hv)]
 rw[e] at g0;have HV:=Hd hv;clear h hk e hv
 go_enter func199,ntmps199
 go_wp2_with fail;refine g0.o.mono ?_;rintro x w' ⟨rfl,rfl⟩;go_wp2_with fail
 go_ret2
 exact .inl ⟨HV.o,rfl,VI _ _⟩
section
variable {o:Own}{s:A4}
abbrev Xx:=@results_tmp2
theorem P7 (h:Ao o w sb d s)(hlt:Ac o w)(hk:Ak d V)(v lo hi:Nat)(hv:v<d.vars.length)(hlo:okE (Aa d) lo)(hhi:okE (Aa d) hi){P:Ending->Wd->Prop}
 (h1:¬ (levN d v<lvE d.vars.length (levN d) (Aa d) lo/\levN d v<lvE d.vars.length (levN d) (Aa d) hi)->∀ W,Bw w W->P (.returned (.tuple #[Iv 0,Iv 10])) W)
 (h2:levN d v<lvE d.vars.length (levN d) (Aa d) lo->levN d v<lvE d.vars.length (levN d) (Aa d) hi->(lo=hi->∀ W,Bw w W->P (.returned (.tuple #[Iv (lo:Nat),Iv 0])) W) /\
  (lo≠hi->(∀ id,d.tab v (eflip lo (eneg hi),eflip hi (eneg hi))=some id->∀ W,Bw w W->P (.returned (.tuple #[Iv (eflip (2*id) (eneg hi):Nat),Iv 0])) W) /\
   (d.tab v (eflip lo (eneg hi),eflip hi (eneg hi))=none->(∀ W,Bw w W->d.pool.many=d.pool.room->P (.returned (.tuple #[Iv 0,Iv 7])) W) /\
    ∀ W W' id d' o',Bw w W->Az o' W' sb d'->Ac o' W'->D7 d d' id v (eflip lo (eneg hi)) (eflip hi (eneg hi))->Chg Al o o' W W'->P (.returned (.tuple #[Iv (eflip (2*id) (eneg hi):Nat),Iv 0])) W'))) :
 Cl 199 #[Pt sb,Iv v,Iv lo,Iv hi] w P:=by
 have gB:levN d v<d.vars.length:=hk.dag.lt v hv;have gK:=h.edge_lt hlo;have gL:=h.edge_lt hhi;have ga:lo<eMax:=by unfold eMax;omega
 have ge:hi<eMax:=by unfold eMax;omega
 have gc:d.level.length<1000000:=by rw[h.len];have:=hk.small;omega
 obtain⟨bl,gg⟩:∃ b,b=decide (levN d v<lvE d.vars.length (levN d) (Aa d) lo):=⟨_,rfl⟩;obtain⟨bh,gh⟩:∃ b,b=decide (levN d v<lvE d.vars.length (levN d) (Aa d) hi):=⟨_,rfl⟩;have g7:Hq (∀ W:Wd,Bw w W->Cl 142 #[Pt sb,Iv v] W (Sm (Iv (levN d v:Nat)) W)):=fun W hb=>by
  have h1:=GR (h.below hlt hb) v gc;unfold Ae.levelOf at h1;rw[Vw (by rw[h.len];exact hv)] at h1;exact h1
 have gx:Hq (∀ W (f:Nat),Bw w W->okE (Aa d) f->Cl 198 #[Pt sb,Iv f] W (Bl (.bool true) W)):=fun W f hb hf=>by
  have gN:=h.edge_lt hf;have h1:=DR (h.below hlt hb) (hlt.mono hb.size) f (by unfold eMax;omega);rw[K3 hf] at h1;exact h1
 have gn:Hq (∀ W (f:Nat),Bw w W->okE (Aa d) f->Cl 245 #[Pt sb,Iv f,Iv (levN d v:Nat)] W (Bl (.bool (decide (levN d v<lvE d.vars.length (levN d) (Aa d) f))) W)):=fun W f hb hf=>by
  have gN:=h.edge_lt hf;have h1:=Ph (h.below hlt hb) (hlt.mono hb.size) f (by unfold eMax;omega) (levN d v:Nat) gc;rw[P5 h hk hf gB] at h1;exact h1
 have gi:=Hd fun W hb=>gn.o W lo hb hlo
 have gj:=Hd fun W hb=>gn.o W hi hb hhi
 have gv:=Hd fun W hb=>gx.o W lo hb hlo
 have gw:=Hd fun W hb=>gx.o W hi hb hhi
 rw[<- gg] at gi;rw[<- gh] at gj;have gu:Hq ((bl&&bh)=false->∀ W,Bw w W->P (.returned (.tuple #[Iv 0,Iv 10])) W):=Hd fun e=>h1 fun c=>by
  rw[gg,gh,WV c.1,WV c.2] at e;cases e
 have gr:Hq (bl=true->bh=true->_):=Hd fun e1 e2=>h2 (of_decide_eq_true (by rw[<- gg];exact e1)) (of_decide_eq_true (by rw[<- gh];exact e2))
 obtain⟨l,hl⟩:=Ex (levN d v);rw[<- hl] at g7 gi gj;have gS:¬ ((l:Nat):Int)<0:=by omega
 have HH:=Hd h;have g8:=Hd hlt;have HV:=Hd hv;have HK:=Hd hk;clear h hlt hk hv hlo hhi gB gK gL gc hl h1 h2 gg gh gn gx
 go_enter func199,ntmps199
 go_wp2_with fail;refine(g7.o _ (VI _ _)).mono ?_;rintro x w' ⟨rfl,rfl⟩;go_wp2_with fail;refine(gv.o _ (VI _ _)).mono ?_;rintro x w1 ⟨rfl,gI⟩;have gy:=Hd gI;clear gI;go_wp2_with fail;refine(gw.o _ gy.o).mono ?_;rintro x w2 ⟨rfl,gH⟩;have HB2:=Hd (gy.o.trans (gH.mono gy.o.size));clear gH;go_wp2_with fail;refine(g7.o _ HB2.o).mono ?_;rintro x w' ⟨rfl,rfl⟩;go_wp2_with fail;refine(gi.o _ HB2.o).mono ?_;rintro x w3 ⟨rfl,gG⟩;have g9:=Hd (HB2.o.trans (gG.mono HB2.o.size));clear gG;cases bl with
 | false =>
   go_wp2_with fail;have HZ:=Hd (gu.o (by first|rfl|trivial) _ g9.o)
   first|exact HZ.o|exact VR (Xx rfl _ _ _) rfl HZ.o
 | true =>
   go_wp2_with fail;refine(g7.o _ g9.o).mono ?_;rintro x w' ⟨rfl,rfl⟩;go_wp2_with fail;refine(gj.o _ g9.o).mono ?_;rintro x w4 ⟨rfl,gF⟩;have g0:=Hd (g9.o.trans (gF.mono g9.o.size));clear gF;cases bh with
   | false =>
     go_wp2_with fail;have HZ:=Hd (gu.o (by first|rfl|trivial) _ g0.o)
     first|exact HZ.o|exact VR (Xx rfl _ _ _) rfl HZ.o
   | true =>
     have gq:=Hd (gr.o (by first|rfl|trivial) (by first|rfl|trivial)).1;have gl:=Hd (gr.o (by first|rfl|trivial) (by first|rfl|trivial)).2;clear gu gr g7 gv gw gi gj
     by_cases he:lo=hi
     ·subst he;have HF:=Hd (gq.o rfl _ g0.o);clear gl gq;go_wp2_with fail
      first|exact HF.o|exact VR (Xx rfl _ _ _) rfl HF.o
     ·have gp:=Hd (gl.o he).1;have gk:=Hd (gl.o he).2;have gQ:((lo:Int) == hi)=false:=by simp;omega
      have g1:=Hd (fun W=>G8 lo hi W ga ge);have gm:=Hd (fun id W (hh:id<2305843009213693952)=>G9 id (eneg hi) W hh);obtain⟨gt,ct,gA,cellv,gM,gR⟩:=(HH.o.below g8.o g0.o).tabAt HV.o;obtain⟨c0,c1,c2,c3,c4,f0⟩:=cells5 (HH.o.below g8.o g0.o).blk;rw[gA] at c2;have gP:(v:Int)<s.ts.length:=by omega
      have gf:=(HH.o.below g8.o g0.o).tab v gM;clear gA gl gq;cases ht:d.tab v (eflip lo (eneg hi),eflip hi (eneg hi)) with
      | some id =>
        have gd:=(HH.o.tk_lt ((HK.o.tab v HV.o _ _ id).1 ht)).2;have g4:=Hd (GN o v (s.ts.getD v 0) (d.tab v) (eflip lo (eneg hi)) (eflip hi (eneg hi)) id _ gf ht);have HF:=Hd (gp.o id ht _ g0.o);have gJ:=Hd (fun W=>gm.o id W (by omega));obtain⟨tv,g5⟩:∃ t,t=s.ts.getD v 0:=⟨_,rfl⟩;rw[<- g5] at cellv g4;obtain⟨lo2,g2⟩:∃ x,x=eflip lo (eneg hi):=⟨_,rfl⟩;obtain⟨gD,g3⟩:∃ x,x=eflip hi (eneg hi):=⟨_,rfl⟩;obtain⟨ng,g6⟩:∃ x,x=eneg hi:=⟨_,rfl⟩;rw[<- g2,<- g3] at g1 g4;rw[<- g6] at g1 gJ HF;clear gf g5 ht gd gm gp gk g2 g3 g6 ga ge he;go_wp2_with fail;refine(g1.o _).mono ?_;rintro x w' ⟨rfl,rfl⟩;go_wp2_with fail;refine g4.o.mono ?_;rintro x w' ⟨rfl,rfl⟩;go_wp2_with fail;refine(gJ.o _).mono ?_;rintro x w' ⟨rfl,rfl⟩;go_wp2_with fail
        first|exact HF.o|exact VR (Xx rfl _ _ _) rfl HF.o
      | none =>
        have g4:=Hd (GO o v (s.ts.getD v 0) (d.tab v) (eflip lo (eneg hi)) (eflip hi (eneg hi)) _ gf ht);have gz:=Hd (K0 (HH.o.below g8.o g0.o) (g8.o.mono g0.o.size) HK.o.live (fun i b hb=>⟨HK.o.dag.okLo i b hb,HK.o.dag.okHi i b hb⟩) v (eflip lo (eneg hi)) (eflip hi (eneg hi)) HV.o ht HK.o.clen);have gO:=Hd (gk.o ht).1;have go:=Hd (gk.o ht).2;obtain⟨tv,g5⟩:∃ t,t=s.ts.getD v 0:=⟨_,rfl⟩;rw[<- g5] at cellv g4;obtain⟨lo2,g2⟩:∃ x,x=eflip lo (eneg hi):=⟨_,rfl⟩;obtain⟨gD,g3⟩:∃ x,x=eflip hi (eneg hi):=⟨_,rfl⟩;obtain⟨ng,g6⟩:∃ x,x=eneg hi:=⟨_,rfl⟩;rw[<- g2,<- g3] at g1 g4 gz go;rw[<- g6] at g1 gm go;clear gf g5 ht gp gk g2 g3 g6 ga ge he;go_wp2_with fail;refine(g1.o _).mono ?_;rintro x w' ⟨rfl,rfl⟩;go_wp2_with fail;refine g4.o.mono ?_;rintro x w' ⟨rfl,rfl⟩;go_wp2_with fail;refine gz.o.mono ?_;rintro x w6 (⟨hm,rfl,gE⟩|⟨id,d',o',rfl,hs,gC,hr,hc⟩)
        ·have HF:=Hd (gO.o _ (g0.o.trans (gE.mono g0.o.size)) hm);clear hm gE c0 c1 c2 c3 c4 f0 cellv;go_wp2_with fail
         first|exact HF.o|exact VR (Xx rfl _ _ _) rfl HF.o
        ·have HF:=Hd (go.o _ _ id d' o' g0.o hs gC hr hc);have gd:id<2305843009213693952:=by
          obtain⟨s',hs'⟩:=hs;have:=hs'.tk_lt (i:=id) (b:=⟨v,lo2,gD⟩) (by rw[hr.nodes,BW]);omega
         clear hs gC hr hc c0 c1 c2 c3 c4 f0 cellv;go_wp2_with fail;refine(gm.o _ _ gd).mono ?_;rintro x w' ⟨rfl,rfl⟩;go_wp2_with fail
         first|exact HF.o|exact VR (Xx rfl _ _ _) rfl HF.o
theorem P8 (h:Az o w sb d)(hlt:Ac o w)(hk:Ak d V)(v:Int)(lo hi:Nat)(hlo:okE (Aa d) lo)(hhi:okE (Aa d) hi) :
 Cl 199 #[Pt sb,Iv v,Iv lo,Iv hi] w (Ic o w sb d V v lo hi):=by
 obtain⟨s,h⟩:=h
 by_cases g1:0<=v/\v<d.vars.length
 ·obtain⟨n,rfl⟩:=Int.eq_ofNat_of_zero_le g1.1;have hv:n<d.vars.length:=by omega
  refine P7 h hlt hk n lo hi hv hlo hhi (fun c W hb=>.inr (.inl ⟨by omega,by omega,by rw[Int.toNat_natCast];omega,rfl,hb⟩)) fun g2 g3=>⟨fun he W hb=>?_,fun he=>⟨fun id hid W hb=>?_,fun hid=>⟨fun W hb hm=>.inr (.inr (.inl ⟨hm,rfl,hb⟩)),fun W W' id d' o' hb hs hl hr hc=>?_⟩⟩⟩
  . subst he;exact .inr (.inr (.inr ⟨by omega,by omega,lo,d,V,o,rfl,⟨s,h.below hlt hb⟩,hlt.mono hb.size,hk,Ext.refl d V,hlo,by funext ρ;simp[iteF],Nat.le_of_lt g2,by omega,Chg.of_below hb _ _⟩))
  ·have g0:=(hk.tab n hv _ _ id).1 hid
   exact .inr (.inr (.inr ⟨by omega,by omega,_,d,V,o,rfl,⟨s,h.below hlt hb⟩,hlt.mono hb.size,hk,Ext.refl d V,Dg (Df g0),
    K1 hk g0,by rw[Dr];unfold lvE;rw[show 2*id/2=id from by omega,g0];exact Vu _,by omega,Chg.of_below hb _ _⟩))
  ·obtain⟨h1,h2⟩:=P1 hk hr hv (Dg hlo) (Dg hhi) (by rw[Dr];exact g2) (by rw[Dr];exact g3) (K2 hi) (FC he) hid;have g0:Aa d' id=some ⟨n,eflip lo (eneg hi),eflip hi (eneg hi)⟩:=by rw[hr.nodes,BW]
   refine .inr (.inr (.inr ⟨by omega,by omega,_,d',_,o',rfl,hs,hl,h1,h2,Dg (Df g0),?_,?_,by rw[hr.many];omega,(Chg.of_below hb _ _).trans hc⟩))
   . rw[K1 h1 g0,h2.ef hlo,h2.ef hhi];rfl
   . rw[Dr,h2.lev];unfold lvE;rw[show 2*id/2=id from by omega,g0];exact Vu _
 . exact P6 h hk v lo hi g1
end
theorem P9 {o:Own}(h:OwnI w' w.heap.size v zs)(hb:Bw w w')(hlt:Ac o w)(r:Role) :
 ∃ o',RowR o' w' r 3 1 v zs.length (Au zs)/\Chg (· = r) o o' w w'/\Ac o' w':=by
 obtain⟨hl,h2⟩:=h;rcases h2 with ⟨h1,h0⟩|⟨g,cap,cur,h1,h2,h3,h4,h5,h6,h7⟩
 . exact⟨o,⟨hl,.inl ⟨h1,h0⟩⟩,Chg.of_below hb _ _,hlt.mono hb.size⟩
 ·have hg:g<w'.heap.size:=(Vr.1 h3).1;refine⟨AI o g r,⟨hl,.inr ⟨g,cap,cur,h1,B0 _ _ _,h3,h4,h5,by omega,h7⟩⟩,⟨hb.os,hb.tape,hb.output,hb.size,fun k hk _=>hb.block k hk,fun k q hq=>CE hlt h2 hq,fun k hk=>?_⟩,fun k q hq=>?_⟩
  ·by_cases e:k=g
   . subst e;exact⟨h2,r,B0 _ _ _,rfl⟩
   . exact absurd (by simp[AI,e]) hk
  ·by_cases e:k=g
   . subst e;exact hg
   . simp only[AI,Vs e] at hq;have:=hlt k q hq;have:=hb.size;omega
theorem K4 (o:Own)(n:Nat)(hn:n<=64)(r:Role)(w:Wd)(hlt:Ac o w) :
 Cl 140 #[Iv n] w fun e w'=>∃ v o',e=.returned v/\RowR o' w' r 3 1 v n ((List.range n).map nat64)/\Chg (· = r) o o' w w'/\Ac o' w' :=
 (OE n w).mono fun e w' ⟨v,h1,h2,h3⟩=>by
  obtain⟨o',a,b,c⟩:=P9 h2 h3 hlt r;have e1:E0 n=iota n:=by unfold E0;congr 1;omega
  have e2:Au (iota n)=(List.range n).map nat64:=by simp[Au,iota,nat64]
  rw[e1,Fk,e2] at a;exact⟨v,o',h1,a,b,c⟩
def store0 (n room:Nat):Ae:=⟨List.range n,List.range n,pool0 room,fun _ _=>none,[],0⟩
structure NewS (o:Own)(w:Wd)(n room sb:Nat)(s:A4)(j:Nat)(o1:Own)(wx:Wd):Prop where
 own:o1 sb=some .store
 ownl:o1 s.lb=some .levels
 blk:wx.heap[sb]?=some (.cells #[Pt s.lb,Pt s.pb,s.vt,.slice none 0 0,Iv 0] 150 (0,0))
 lev:wx.heap[s.lb]?=some (.cells #[s.vv,s.vl] 152 (0,0))
 vars:RowR o1 wx .vars 3 1 s.vv n ((List.range n).map nat64)
 level:RowR o1 wx .level 3 1 s.vl n ((List.range n).map nat64)
 pool:Ap o1 wx s.pb (pool0 room)
 tabs:RowR o1 wx .tabs 173 1 s.vt j (s.ts.map ptrV)
 tl:s.ts.length=j
 tab:∀ v,v<j->AN o1 wx v (s.ts.getD v 0) (fun _=>none)
 chg:Chg Al o o1 w wx
 lt:Ac o1 wx
 ge:w.heap.size<=sb
theorem NewS.done {o:Own}{s:A4}(h:NewS o w n room sb s n o1 wx):Az o1 wx sb (store0 n room) :=
 ⟨{ s with vc:=.slice none 0 0 },h.own,h.ownl,h.blk,h.lev,by simpa [store0] using h.vars,by simpa [store0] using h.level,h.pool,by rw[h.tl];exact h.tabs,fun v hv=>h.tab v (by rw[<- h.tl];exact hv),RowR.nil _ _ _ _ _,rfl,by simp[store0,h.tl]⟩
theorem NewS.grown {o o3:Own}{wy wz:Wd}{s:A4}{t:Nat}(h:NewS o w n room sb s j o1 wx)(ht:AN o2 wy j t (fun _=>none))(hc:Chg (fun r=>r=.tab j\/r=.tmap j) o1 o2 wx wy)(hl:Ac o2 wy)
 (hr:RowR o3 wz .tabs 173 1 (.slice (some (Av g)) (j+1) cap) (j+1) (s.ts.map ptrV++[ptrV t])) (hc2:Chg (· = .tabs) o2 o3 wy wz) (hl2:Ac o3 wz) :
 NewS o w n room sb { s with vt:=.slice (some (Av g)) (j+1) cap,ts:=s.ts++[t] } (j+1) o3 (wz.setCell (Aw sb 2) (.slice (some (Av g)) (j+1) cap)):=by
 have g0:Chg (fun r=>r=.tab j\/r=.tmap j\/r=.tabs) o1 o3 wx wz:=(hc.mono fun r e=>by rcases e with e|e;exact .inl e;exact .inr (.inl e)).trans (hc2.mono fun r e=>.inr (.inr e));have g1:=g0.ext _ _ h.own;have ne:∀ {a r},o3 a=some r->r ≠ .store->a≠sb:=fun ha hr e=>by subst e;rw[ha] at g1;cases g1;exact hr rfl
 have g3:=g0.ext _ _ h.ownl;have row:∀ {r e k v m xs},RowR o1 wx r e k v m xs->r ≠ .store->¬ (r=.tab j\/r=.tmap j\/r=.tabs)->RowR o3 (wz.setCell (Aw sb 2) (.slice (some (Av g)) (j+1) cap)) r e k v m xs:=fun hr h1 h2 =>
  (hr.chg g0 h.lt h2).setCell_other (p:=Aw sb 2) (by rw[g1];intro e;cases e;exact h1 rfl) _
 have ctab:∀ v t f,AN o3 wz v t f->AN o3 (wz.setCell (Aw sb 2) (.slice (some (Av g)) (j+1) cap)) v t f:=fun v t f hT =>
  hT.keep (fun q r hq g2=>Ay (ne hq (by rintro rfl;rcases g2 with e|e<;>cases e)) _) (fun _ _ h=>h)
 refine⟨g1,g3,A2 ((g0.same h.lt h.own (by simp)).trans h.blk) _,(Ay (ne g3 (by simp)) _).trans ((g0.same h.lt h.ownl (by simp)).trans h.lev),row h.vars (by simp) (by simp),row h.level (by simp) (by simp),?_,?_,by simp[h.tl],fun v hv=>?_,?_,hl2.mono (by simp[World.setCell]),h.ge⟩
 . have hp:=h.pool.chg g0 h.lt (by simp) (by simp) (by simp) (by simp);exact hp.keep (fun q r hq g2=>Ay (ne hq (by rintro rfl;rcases g2 with e|e|e|e<;>cases e)) _) (fun _ _ h=>h)
 . have:=hr.setCell_other (p:=Aw sb 2) (by rw[g1];simp) (.slice (some (Av g)) (j+1) cap);simpa using this
 ·dsimp only;refine ctab _ _ _ ?_
  by_cases e:v=j
  ·subst e;have e2:(s.ts++[t]).getD v 0=t:=by simp[List.getD,h.tl]
   rw[e2];exact ht.chg hc2 hl (by simp) (by simp)
  ·have e2:(s.ts++[t]).getD v 0=s.ts.getD v 0:=by
    have:=h.tl;simp[List.getD,VS (show v<s.ts.length by omega)]
   rw[e2];exact(h.tab v (by omega)).chg g0 h.lt (by simp[e]) (by simp[e])
 . exact(h.chg.trans (g0.mono fun r e=>by rcases e with rfl|rfl|rfl<;>simp[Al])).setCell (p:=Aw sb 2) g1 (by simp[Al]) _
theorem PA:(prog.info? 173).map (fun i=>(i.zero,i.size,i.bytes))=some (some (.pointer none),1,8):=by kernel_rfl
theorem PB (o:Own)(n room:Nat)(w:Wd)(hlt:Ac o w)(hn:n<=64)(h1:1<=room)(h2:room<=1048576) :
 Cl 91 #[Iv n,Iv room] w fun x w'=>∃ sb o',x=.returned (.tuple #[Pt sb,Iv 0])/\Az o' w' sb (store0 n room)/\Chg Al o o' w w'/\Ac o' w'/\w.heap.size<=sb:=by
 have gM:(n:Int)<=64:=by omega
 have gL:(0:Int)<=n:=by omega
 have HP:=Hd (Pb o room w hlt h1 h2);clear hlt h1 h2
 go_enter func91,ntmps91
 go_wp2_with fail;refine HP.o.mono ?_;rintro x w1 ⟨pb,o1,rfl,gq,gw,gi,gK⟩;have gD:=Hd (K4 o1 n hn .vars w1 gi);have gB:=Hd gi;have gA:=Hd gq;have go:=Hd gw;clear gq gw gi;go_wp2_with fail;refine gD.o.mono ?_;rintro x w2 ⟨vv,o2,rfl,gc,gv,gh⟩;have gC:=Hd (K4 o2 n hn .level w2 gh);have gm:=Hd gc;have gd:=Hd gv;have gn:=Hd gh;clear gc gv gh;go_wp2_with fail;refine gC.o.mono ?_;rintro x w3 ⟨vl,o3,rfl,g4,gu,gt⟩;obtain⟨av,cv,rfl,_⟩:=gm.o.slice;obtain⟨al,cl,rfl,_⟩:=g4.slice;have gz:=Hd g4;have g6:=Hd gu;have g3:=Hd gt;clear g4 gu gt;go_upto_region 7 with fail;obtain⟨wl,g1⟩:=Ex (w3.alloc (.cells #[.slice av n cv,.slice al n cl] 152));obtain⟨ws,g0⟩:=Ex (wl.alloc (.cells #[Pt w3.heap.size,Pt pb,.slice none 0 0,.slice none 0 0,Iv 0] 150));have gf:wl.heap.size=w3.heap.size+1:=by rw[g1];simp
 have gx:NewS o w n room (w3.heap.size+1) ⟨w3.heap.size,pb,.slice av n cv,.slice al n cl,.slice none 0 0,.slice none 0 0,[]⟩ 0 (AI (AI o3 w3.heap.size .levels) (w3.heap.size+1) .store) ws:=by
  have c1:=(Chg.refl Al o3 w3).allocR (r:=.levels) g3.o (.cells #[.slice av n cv,.slice al n cl] 152) (by simp[Al]);have l1:=g3.o.allocR (.cells #[.slice av n cv,.slice al n cl] 152) .levels;rw[<- g1] at c1 l1;have c2:=c1.allocR (r:=.store) l1 (.cells #[Pt w3.heap.size,Pt pb,.slice none 0 0,.slice none 0 0,Iv 0] 150) (by simp[Al]);have l2:=l1.allocR (.cells #[Pt w3.heap.size,Pt pb,.slice none 0 0,.slice none 0 0,Iv 0] 150) .store;rw[<- g0,gf] at c2 l2;have hb:Bw w3 ws:=by rw[g0,g1];exact(Ah w3 _).alloc (by simp) _
  have gc:=((gm.o.chg g6.o gn.o (by simp)).below g3.o hb).keep (o':=AI (AI o3 w3.heap.size .levels) (w3.heap.size+1) .store) (fun _ _=>rfl) (fun g hg=>c2.ext g _ hg);have g4:=(gz.o.below g3.o hb).keep (o':=AI (AI o3 w3.heap.size .levels) (w3.heap.size+1) .store) (fun _ _=>rfl) (fun g hg=>c2.ext g _ hg);have gF:=(go.o.mono (R':=Al) (fun r hr=>by rcases hr with rfl|rfl|rfl<;>simp[Al,Br])).trans ((gd.o.mono (R':=Al) (fun r hr=>by subst hr;simp[Al])).trans ((g6.o.mono (R':=Al) (fun r hr=>by subst hr;simp[Al])).trans c2));have gE:=(gA.o.chg (gd.o) gB.o (by simp) (by simp) (by simp) (by simp)).chg g6.o gn.o (by simp) (by simp) (by simp) (by simp);have hp:=(gE.below hb g3.o).keep (o':=AI (AI o3 w3.heap.size .levels) (w3.heap.size+1) .store) (fun _ _ _ _=>rfl) (fun g r hg=>c2.ext g r hg);refine⟨B0 _ _ _,CE l1 (by omega) (B0 _ _ _),?_,?_,gc,g4,hp,RowR.nil _ _ _ _ _,rfl,fun v hv=>absurd hv (by omega),gF,l2,?_⟩
  . rw[g0,<- gf];exact Vv wl _
  . rw[g0];exact(VL wl _ (show w3.heap.size<wl.heap.size by omega)).trans (by rw[g1];exact Vv w3 _)
  ·show w.heap.size<=w3.heap.size+1
   exact Nat.le_succ_of_le (Vy go.o.size (Vy gd.o.size g6.o.size))
 rw[<- g1,<- g0];have gy:=Hd gx;clear gx g0 g1 gf gm gz go gd g6 gB gn g3 gA gD gC HP;go_wp2_with fail
 go_loopw [31] (fun i wr=>∃ (j:Nat) (s:A4) (o1:Own),j<=n/\i=Iv j/\NewS o w n room (w3.heap.size+1) s j o1 wr) (fun i _=>n-(intOf i).toNat)
 case atStart=>exact⟨0,_,_,by omega,rfl,gy.o⟩
 case round =>
  obtain⟨j,s,o1,hj,rfl,hS⟩:=hrel;clear gy
  by_cases hlt:j<n
  ·obtain⟨c0,c1,c2,c3,c4,f0⟩:=cells5 hS.blk;obtain⟨av,cv,g9,_⟩:=hS.tabs.slice;rw[g9] at c2;have gI:(j:Int)<n:=by omega
   have HJ:(j:Int)+1<=64:=by omega
   have HS:=Hd hS;have gG:Hq (RowR o1 wr .tabs 173 1 (.slice av j cv) j (s.ts.map ptrV)):=by show RowR _ _ _ _ _ _ _ _;rw[<- g9];exact hS.tabs
   have gH:=Hd (OV o1 j wr.drew hS.lt);have gJ:j<=64:=by omega
   have gk:=Hd g9;clear g9 hS;go_upto_region 9 with fail;refine AJ (fun W:Wd=>W.cell? ⟨w3.heap.size+1,2,none⟩=some (.slice av j cv)/\W.frozen? ⟨w3.heap.size+1,2,none⟩=false) true 10
    [(0,false),(1,false),(2,false),(3,false),(4,false),(5,true),(6,true),(7,true),(8,false),(9,false),(10,true)] (by kernel_rfl) (by kernel_rfl) ⟨c2,f0 2⟩ ?_
   simp only[planned,AH]
   iterate 5
    refine Aq rfl ?_;apply Exists.intro;refine⟨fun w' hw=>?_,?_⟩
    . obtain⟨h1,h2⟩:=hw;go_simp;rfl
    simp only[Ab]
   refine BH (R:=fun v w'=>∃ t o2,v=Pt t/\AN o2 w' j t (fun _=>none)/\Chg (fun r=>r=.tab j\/r=.tmap j) o1 o2 wr w'/\Ac o2 w') rfl (by go_simp) (gH.o.mono (fun e w' he=>?_)) ?_
   . obtain⟨t,o2,rfl,a1,a2,a3,a4⟩:=he;obtain⟨_,_,q2,_,_,q0⟩:=cells5 ((a2.same (by exact HS.o.lt) HS.o.own (by simp)).trans HS.o.blk);exact⟨_,rfl,⟨by rw[<- gk.o];exact q2,q0 2⟩,t,o2,rfl,a1,⟨a2.os,a2.tape,a2.output,a2.size,a2.block,a2.ext,a2.new⟩,a3⟩
   rintro v wy-⟨t,o2,rfl,ht,g2,g5⟩;simp only[Ab];have ga:=(g2.same HS.o.lt HS.o.own (by simp)).trans HS.o.blk;have gg:w3.heap.size+1<wy.heap.size:=(Vr.1 ga).1;have gP:=Hd g2;have gN:=Hd ht;have gO:=Hd g5;have gl:=gG.o.chg g2 HS.o.lt (by simp);obtain⟨wb,g8⟩:=Ex (wy.alloc (.cells #[Pt t] 173));obtain⟨_,_,p2,_,_,p0⟩:=cells5 (show wb.heap[w3.heap.size+1]?=_ from by rw[g8];exact(VL _ _ gg).trans ga);refine E6 (v:=.slice (some (Av wy.heap.size)) 1 1) (w':=wb) rfl (by rw[g8];go_simp) ⟨by rw[<- gk.o];exact p2,p0 2⟩ ?_;simp only[Ab];obtain⟨g,cap,wz,o3,g7,gp,gj,gr⟩:=GF 148 173 148 1 8 (.pointer none) underlying148 PA rfl (by decide) #[Pt t] rfl (fun u hu=>by simp at hu;subst hu;rfl) gl g5 (by omega) (by decide);rw[<- g8] at g7;obtain⟨_,_,r2,_,_,r0⟩:=cells5 ((gj.same g5 (g2.ext _ _ HS.o.own) (by simp)).trans ga);refine E6 (v:=.slice (some (Av g)) (j+1) cap) (w':=wz) rfl (JY rfl rfl rfl g7) ⟨by rw[<- gk.o];exact r2,r0 2⟩ ?_;simp only[Ab];have HG:=Hd (HS.o.grown ht g2 g5 gp gj gr);clear ga gg g2 ht g5 gl g8 p2 p0 g7 gp gj gr
   iterate 2
    refine Aq rfl ?_;apply Exists.intro;refine⟨fun w' hw=>?_,?_⟩
    . obtain⟨h1,h2⟩:=hw;go_simp;rfl
    simp only[Ab]
   refine Di rfl (fun K hK=>?_);unfold Oper.wp;go_simp;refine hK _ _ (Cm ?_);go_wp2_with fail;go_roundw
   case rel=>exact⟨j+1,_,_,by omega,by simp,HG.o⟩
   case measure=>simp[intOf];omega
  ·obtain rfl:j=n:=by omega
   have HS:=Hd hS;clear hS;go_wp2_with fail
   go_ret2
   exact⟨_,_,rfl,HS.o.done,HS.o.chg,HS.o.lt,HS.o.ge⟩
end Go.Proofs.YtkidaindpahefaaGreat
