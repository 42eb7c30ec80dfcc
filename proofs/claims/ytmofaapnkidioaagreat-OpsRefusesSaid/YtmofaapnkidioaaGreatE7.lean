/- Several texts in one file: contracts of the program's functions and what follows from them. -/
import Derived.Test.YtmofaapnkidioaaGreatE6
import Derived.Deep.WholeRow
import Derived.Deep.CutBlock
set_option linter.unusedSimpArgs false
set_option linter.unusedVariables false
set_option linter.unusedSectionVars false
set_option linter.unnecessarySimpa false
set_option maxRecDepth 100000
set_option maxHeartbeats 8000000
namespace Go.Proofs.YtmofaapnkidioaaGreat
open Go.RowKit
theorem Zt1 (op v:Int) (n:Nat):errN op v n=0↔0<=(Zbt op).1/\(op=3->0<=v/\v<64)/\(op≠3->v=0)/\(Zbt op).1<=n/\(n:Int)<=(Zbt op).2:=by
 unfold errN;obtain⟨p1,hp1⟩:∃ p1,p1=(Zbt op).1:=⟨_,rfl⟩;obtain⟨p2,hp2⟩:∃ p2,p2=(Zbt op).2:=⟨_,rfl⟩;rw[<- hp1,<- hp2];clear hp1 hp2
 by_cases c1:p1<0
 ·
  rw[if_pos c1];constructor
  ·
   intro h;omega
  ·
   rintro⟨h,_⟩;omega
 rw[if_neg c1]
 by_cases c2:(op=3/\(v<0\/64<=v))\/(op≠3/\v≠0)
 ·
  rw[if_pos c2];constructor
  ·
   intro h;omega
  ·
   rintro⟨_,h1,h2,_⟩;rcases c2 with ⟨h3,h4⟩|⟨h3,h4⟩
   ·
    have:=h1 h3;omega
   ·
    exact absurd (h2 h3) h4
 rw[if_neg c2]
 by_cases c3:(n:Int)<p1\/p2<n
 ·
  rw[if_pos c3];constructor
  ·
   intro h;omega
  ·
   rintro⟨_,_,_,h1,h2⟩;omega
 rw[if_neg c3];refine⟨fun _=>⟨by omega,fun h=>?_,fun h=>?_,by omega,by omega⟩,fun _=>rfl⟩
 ·
  constructor
  ·
   rcases Int.lt_or_le v 0 with h1|h1
   ·
    exact absurd (.inl ⟨h,.inl h1⟩) c2
   ·
    exact h1
  ·
   rcases Int.lt_or_le v 64 with h1|h1
   ·
    exact h1
   ·
    exact absurd (.inl ⟨h,.inr h1⟩) c2
 ·
  by_cases h1:v=0
  ·
   exact h1
  ·
   exact absurd (.inr ⟨h,h1⟩) c2
theorem Zl5:∀ {e:ExT} {deep:Nat} {w:World} {x:Value},Zaq w e x->(chkT e deep=0↔okT e deep)
 | .nil,_,_,_,h=>by unfold Zaq at h;exact h.elim
 | .mk op v n kid,deep,w,x,h=>by
   unfold Zaq at h;obtain⟨a,c,_,_,_,_,h5⟩:=h;have ih:∀ i,i<n->(chkT (kid i) (deep+1)=0↔okT (kid i) (deep+1)):=fun i hi=>by
    obtain⟨b,off,x0,x1,x2,_,_,_,_,hx⟩:=h5 i hi;exact Zl5 hx
   have hz:=Zt1 op v n
   show (if (if 64<deep then 17 else errN op v n)=0 then Zfx n (fun i=>chkT (kid i) (deep+1)) else if 64<deep then 17 else errN op v n)=0↔deep<=64/\0<=(Zbt op).1/\(op=3->0<=v/\v<64)/\(op≠3->v=0)/\(Zbt op).1<=n/\(n:Int)<=(Zbt op).2/\∀ i,i<n->okT (kid i) (deep+1)
   by_cases hd:64<deep
   ·
    rw[if_pos hd,if_neg (by omega)];constructor
    ·
     intro h;omega
    ·
     rintro⟨h,_⟩;omega
   rw[if_neg hd]
   by_cases he:errN op v n=0
   ·
    rw[if_pos he,Zei];obtain⟨q1,q2,q3,q4,q5⟩:=hz.1 he;exact⟨fun h=>⟨by omega,q1,q2,q3,q4,q5,fun i hi=>(ih i hi).1 (h i hi)⟩,fun⟨_,_,_,_,_,_,h⟩ i hi=>(ih i hi).2 (h i hi)⟩
   ·
    rw[if_neg he];exact⟨fun h=>absurd h he,fun⟨_,q1,q2,q3,q4,q5,_⟩=>hz.2 ⟨q1,q2,q3,q4,q5⟩⟩
open Go.RowKit
def Zkd (l:List Int):List Value:=(List.range 64).map fun(k:Nat)=>Value.bool (decide ((k:Int)∈l))
theorem Zke (l:List Int):(Zkd l).length=64:=by simp[Zkd]
theorem Zhz (l:List Int) {k:Nat} (hk:k<64):(Zkd l)[k]?=some (.bool (decide ((k:Int)∈l))):=by
 simp[Zkd,List.getElem?_range hk]
theorem Zuv (l:List Int) {v:Nat} (hv:v<64):(Zkd l).set v (.bool true)=Zkd (l++[(v:Int)]):=by
 apply List.ext_getElem?;intro k;rcases Nat.lt_or_ge k 64 with hk|hk
 ·
  rw[Zhz _ hk,List.getElem?_set]
  by_cases e:v=k
  ·
   subst e;rw[if_pos rfl,if_pos (by rw[Zke];exact hv)];simp
  ·
   rw[if_neg e,Zhz _ hk];have:((k:Int)∈l++[(v:Int)])↔(k:Int)∈l:=by
    simp only[List.mem_append,List.mem_singleton];constructor
    ·
     rintro(h|h)
     ·
      exact h
     ·
      omega
    ·
     exact .inl
   simp only[this]
 ·
  rw[List.getElem?_eq_none (by rw[List.length_set,Zke];exact hk),List.getElem?_eq_none (by rw[Zke];exact hk)]
def outV (l:List Int):Nat->List Int
 | 0=>[]
 | j+1=>if (j:Int)∈l then outV l j++[(j:Int)] else outV l j
theorem Zmp (l:List Int):∀ j,(outV l j).length<=j
 | 0=>Nat.le_refl _
 | j+1=>by
   have:=Zmp l j;unfold outV;split
   ·
    simp;omega
   ·
    omega
theorem Zqt (l:List Int) (x:Int):∀ j,x∈outV l j↔x∈l/\0<=x/\x<(j:Int)
 | 0=>by
   simp only[outV,List.not_mem_nil,false_iff];omega
 | j+1=>by
   have ih:=Zqt l x j;unfold outV;split
   ·
    rename_i h
    rw[List.mem_append,ih,List.mem_singleton];constructor
    ·
     rintro(⟨h1,h2,h3⟩|rfl)
     ·
      exact⟨h1,h2,by omega⟩
     ·
      exact⟨h,by omega,by omega⟩
    ·
     rintro⟨h1,h2,h3⟩;rcases Int.lt_or_le x j with h4|h4
     ·
      exact .inl ⟨h1,h2,h4⟩
     ·
      exact .inr (by omega)
   ·
    rename_i h
    rw[ih];constructor
    ·
     rintro⟨h1,h2,h3⟩;exact⟨h1,h2,by omega⟩
    ·
     rintro⟨h1,h2,h3⟩;refine⟨h1,h2,?_⟩;rcases Int.lt_or_le x j with h4|h4
     ·
      exact h4
     ·
      have:x=j:=by omega
      subst this;exact absurd h1 h
theorem Zh0 {f:Nat->List Int} {x:Int}:∀ {n:Nat},x∈Zd1 n f->∃ i,i<n/\x∈f i
 | 0,h=>by simp[Zd1] at h
 | k+1,h=>by
   unfold Zd1 at h;rcases List.mem_append.1 h with h1|h1
   ·
    obtain⟨i,h2,h3⟩:=Zh0 h1;exact⟨i,by omega,h3⟩
   ·
    exact⟨k,by omega,h1⟩
theorem Zqs:∀ {e:ExT} {deep:Nat},okT e deep->∀ v∈Zbe e,0<=v/\v<64
 | .nil,_,h=>h.elim
 | .mk op v n kid,deep,h=>by
   obtain⟨_,_,h2,_,_,_,h6⟩:=h;intro x hx;unfold Zbe at hx;rcases List.mem_append.1 hx with h|h
   ·
    split at h
    ·
     rename_i e
     rw[List.mem_singleton] at h;subst h;exact h2 e
    ·
     simp at h
   ·
    obtain⟨i,hi,hxi⟩:=Zh0 h;exact Zqs (h6 i hi) x hxi
open Go.RowKit
structure IV (w0:World) (ib:Nat) (l:List Int) (W:World):Prop where
 b:Below w0.heap.size w0 W
 y:W.heap[ib]?=some (.cells (Zkd l).toArray 206 (0,0))
def depN:ExT->Nat->Int
 | .nil,_=>0
 | .mk _ _ _ _,deep=>if 64<deep then 1 else 0
def depT:ExT->Nat->Int
 | .nil,_=>0
 | .mk _ _ n kid,deep=>if (if 64<deep then (1:Int) else 0)=0 then Zfx n fun i=>depT (kid i) (deep+1) else if 64<deep then 1 else 0
theorem Znz (args:Array Value) (w:World):(callFunc 181 args).run Tryz.prog w=.ok (.enter 181 args) w:=enters_of Tryz.func181 (by kernel_rfl) rfl args w
theorem Zsx {w0:World} {ib:Nat} (hib:w0.heap.size<=ib):Zs2 okT (fun k=>k=ib) w0 (fun l _ W=>IV w0 ib l W) (fun _ _=>False) depN 181 #[.pointer (some ⟨ib,0,none⟩)]:=by
 intro op v n kid x deep l i w hok h hI hd hi;unfold Zaq at h;obtain⟨a,c,rfl,_⟩:=h;obtain⟨hb,hy⟩:=hI;obtain⟨hdeep,-,hv3,-⟩:=hok;obtain⟨w1,hw1⟩:∃ w1,w1=w.alloc (.cells #[.int .i64 op,.int .i64 v,.slice a n c] 86):=⟨_,rfl⟩;have HW1:Hid (_=w1):=Hd hw1.symm;have hlt:ib<w.heap.size:=(Array.getElem?_eq_some_iff.1 hy).1;have hb1:Below w.heap.size w w1:=by rw[hw1];exact Zad _ _
 have hy1:=(hb1.block ib hlt).trans hy;have hx1:w1.heap[w.heap.size]?=some (.cells #[.int .i64 op,.int .i64 v,.slice a n c] 86 (0,0)):=by rw[hw1];exact heap_alloc_new _ _
 have d0:w1.cell? ⟨w.heap.size,0,none⟩=some (.int .i64 op):=by rw[cell_of_row _ _ 0 _ _ _ hx1];rfl
 have d1:w1.cell? ⟨w.heap.size,1,none⟩=some (.int .i64 v):=by rw[cell_of_row _ _ 1 _ _ _ hx1];rfl
 have hr1:Wr (fun k=>k=ib) w w1:=Wr.of_below hb1 _;have HWG:Hid (∀ W,Wr (fun k=>k=ib) w W->Below w0.heap.size w0 W):=Hd fun W hr=>hb.trans (hr.below (fun k hk=>by rw[hk];exact hib) hb.size)
 have hN:depN (.mk op v n kid) deep=0:=if_neg (by omega);obtain⟨P,hP⟩:∃ P:Ending->World->Prop,P=fun y w'=>∃ b:Bool,y=.returned (.bool b)/\(b=true->depN (.mk op v n kid) deep=0/\IV w0 ib (l++opV op v) w')/\(b=false->depN (.mk op v n kid) deep≠0/\False)/\Wr (fun k=>k=ib) w w':=⟨_,rfl⟩
 have HP:Hid (∀ w',IV w0 ib (l++opV op v) w'->Wr (fun k=>k=ib) w w'->P (.returned (.bool true)) w'):=Hd fun w' h1 h2=>by rw[hP];exact⟨true,rfl,fun _=>⟨hN,h1⟩,by simp,h2⟩
 show Calls _ _ #[_,_,_] _ _
 rw[<- hP]
 by_cases e:op=3
 ·
  subst e;obtain⟨q,rfl⟩:∃ q:Nat,v=(q:Nat):=⟨v.toNat,by have:=(hv3 rfl).1;omega⟩;have hq:q<64:=by have:=(hv3 rfl).2;omega
  have cy1:w1.cell? ⟨ib,q,none⟩=some (.bool (decide ((q:Int)∈l))):=by
   rw[cell_of_row _ _ q _ _ _ hy1];simpa using Zhz l hq
  have fy1:w1.frozen? ⟨ib,q,none⟩=false:=by simp[World.frozen?,hy1]
  obtain⟨w2,hw2⟩:∃ w2,w2=w1.setCell ⟨ib,q,none⟩ (.bool true):=⟨_,rfl⟩;have HW2:Hid (_=w2):=Hd hw2.symm;have hy2:w2.heap[ib]?=some (.cells (Zkd (l++[(q:Int)])).toArray 206 (0,0)):=by
   rw[hw2,Zae hy1 _,<- Zuv l hq];simp
  have hr2:Wr (fun k=>k=ib) w w2:=by rw[hw2];exact hr1.setCell (p:=⟨ib,q,none⟩) (.inl rfl) _
  have HF:=Hd (HP.out w2 ⟨HWG.out _ hr2,hy2⟩ hr2);have hqz:(q:Int)<64:=by omega
  clear hP hw1 hw2 hb hb1 hy hy1 hx1 hr1 hy2 hr2 hN hv3
  go_enter Tryz.func181,Tryz.ntmps181
  go_upto_region 1 with fail;rw[HW1.out];go_upto_region 3 with fail;rw[HW2.out];go_wp2_with fail;exact HF.out
 ·
  have e3:(op == 3)=false:=by simpa using e
  have HF:=Hd (HP.out w1 ⟨HWG.out _ hr1,by rw[show opV op v=[] from if_neg e,List.append_nil];exact hy1⟩ hr1);clear hP hw1 hb hb1 hy hy1 hx1 hr1 hN hv3
  go_enter Tryz.func181,Tryz.ntmps181
  go_upto_region 1 with fail;rw[HW1.out];go_wp2_with fail;exact HF.out
theorem Zs0 {P:Program} {ops:Array Oper} {rest:List Oper} {o:Oper} {a:Act} {w:World} {Q:Exit->Act->World->Prop} {v:Value} (hg:o.guard=none) (he:(execOp a.eval o).run P w=.ok (.value v) w) (h:wpList P ops Q rest (a.put o.dst v) w):wpList P ops Q (o::rest) a w:=by
 refine wpList_step fun K hK=>?_
 rw[if_pos (by simp[Region.wanted,hg])];unfold Oper.wp;rw[he];exact hK _ _ h
theorem Zt3 {P:Program} {o:Oper} {a:Act} {w:World} {t:TypeId} {s:Operand} {v:Value} (ho:o.op=.load t s) (hr:(Instr.loadAt t (a.eval s)).run P w=.ok v w):(execOp a.eval o).run P w=.ok (.value v) w:=by
 unfold execOp;simp[ho,hr]
theorem Zmx {P:Program} (t e:TypeId) (n:Nat) (cs:Array Value) (i:Nat) (v:Value) (w:World) (h:P.underlying t=some (.array n e)) (h1:(P.info? e).map (·.size)=some 1) (h2:(isAgg e).run P w=.ok false w) (hi:i<n) (hv:cs[i]?=some v):(Instr.index t (.agg cs) (.int .i64 i)).run P w=.ok v w:=by
 have h3:(sizeOf e).run P w=.ok 1 w:=by
  cases hq:P.info? e with
  | none=>simp[hq] at h1
  | some x =>
    simp[hq] at h1;simp[sizeOf,typeInfo,hq,h1]
 simp[Instr.index,run_underlying h,asIntOf,hi,h3,part,h2,hv]
theorem Zv2 (e:ExT) (x:Value) (w:World) (hs:e.size<=4096) (h:Zaq w e x) (hok:okT e 1):Calls Tryz.prog 122 #[x] w fun y w'=>∃ v,y=.returned v/\OwnI w' w.heap.size v (outV (Zbe e) 64)/\Below w.heap.size w w':=by
 have hmf:∀ (fn:Fn) (first cap:Array Value) (w:World),(Instr.makeFunc fn first cap).run Tryz.prog w=.ok (.func fn first cap) w:=fun _ _ _ _=>rfl
 have hchk:chkT e 1=0:=(Zl5 h).2 hok;obtain⟨op,v,a,n,c,rfl⟩:=h.aggE;obtain⟨w1,hw1⟩:∃ w1,w1=w.alloc (.cells #[.int .i64 op,.int .i64 v,.slice a n c] 86):=⟨_,rfl⟩;have HW1:Hid (_=w1):=Hd hw1.symm;have HB1:Hid (Below w.heap.size w w1):=by rw[hw1];exact Hd (Zad _ _)
 have hz1:w1.heap.size=w.heap.size+1:=by rw[hw1];simp
 have hx1:w1.heap[w.heap.size]?=some (.cells #[.int .i64 op,.int .i64 v,.slice a n c] 86 (0,0)):=by rw[hw1];exact heap_alloc_new _ _
 have d0:w1.cell? ⟨w.heap.size,0,none⟩=some (.int .i64 op):=by rw[cell_of_row _ _ 0 _ _ _ hx1];rfl
 have d1:w1.cell? ⟨w.heap.size,1,none⟩=some (.int .i64 v):=by rw[cell_of_row _ _ 1 _ _ _ hx1];rfl
 have d2:w1.cell? ⟨w.heap.size,2,none⟩=some (.slice a n c):=by rw[cell_of_row _ _ 2 _ _ _ hx1];rfl
 have HCK:=Hd (Zlg e _ w1 hs (h.below HB1.out));rw[hchk] at HCK;have HE:=Hd h;have HOK:=Hd hok;have HS:=Hd hs;obtain⟨L,hL⟩:∃ L,L=Zbe e:=⟨_,rfl⟩;have HLE:=Hd hL;rw[<- hL];clear h hok hs hw1 hchk hx1 hL
 go_enter Tryz.func122,Tryz.ntmps122
 go_upto_region 1 with fail;rw[HW1.out];go_wp2_with fail;refine HCK.out.mono ?_;rintro y w2 ⟨rfl,hb2⟩;have HB2:=Hd (HB1.out.trans (hb2.mono HB1.out.size));have f0:=(hb2.cell (p:=⟨w.heap.size,0,none⟩) (Zaa d0)).trans d0;have f1:=(hb2.cell (p:=⟨w.heap.size,1,none⟩) (Zaa d1)).trans d1;have f2:=(hb2.cell (p:=⟨w.heap.size,2,none⟩) (Zaa d2)).trans d2;have hz2:w.heap.size+1<=w2.heap.size:=by have:=hb2.size;omega
 clear hb2 d0 d1 d2 HCK HW1;obtain⟨w3,hw3⟩:∃ w3,w3=w2.alloc (.cells #[.bool false,.bool false,.bool false,.bool false,.bool false,.bool false,.bool false,.bool false,.bool false,.bool false,.bool false,.bool false,.bool false,.bool false,.bool false,.bool false,.bool false,.bool false,.bool false,.bool false,.bool false,.bool false,.bool false,.bool false,.bool false,.bool false,.bool false,.bool false,.bool false,.bool false,.bool false,.bool false,.bool false,.bool false,.bool false,.bool false,.bool false,.bool false,.bool false,.bool false,.bool false,.bool false,.bool false,.bool false,.bool false,.bool false,.bool false,.bool false,.bool false,.bool false,.bool false,.bool false,.bool false,.bool false,.bool false,.bool false,.bool false,.bool false,.bool false,.bool false,.bool false,.bool false,.bool false,.bool false] 206):=⟨_,rfl⟩;have HW3:Hid (_=w3):=Hd hw3.symm;have hb3:Below w2.heap.size w2 w3:=by rw[hw3];exact Zad _ _
 have hy3:w3.heap[w2.heap.size]?=some (.cells (Zkd []).toArray 206 (0,0)):=by rw[hw3,heap_alloc_new];rfl
 have HWK:=Hd (Zna (G:=okT) (C:=fun k=>k=w2.heap.size) (w0:=w) (I:=fun l _ W=>IV w w2.heap.size l W) (Bad:=fun _ _=>False) (N:=depN) (T:=depT)
  (fun l i W k hI hk=>by subst hk;exact(Array.getElem?_eq_some_iff.1 hI.y).1)
  (fun l i W W' hI hb=>⟨hI.b.trans (hb.mono hI.b.size),(hb.block _ (Array.getElem?_eq_some_iff.1 hI.y).1).trans hI.y⟩)
  (fun l i W hI=>hI.b)
  (fun op v n kid deep h=>by
   rcases Nat.lt_or_ge 64 deep with hd|hd
   ·
    rw[show depN (.mk op v n kid) deep=1 from if_pos hd] at h;omega
   ·
    exact hd)
  (fun op v n kid deep=>rfl) Znz (fun op v n kid deep h i hi=>h.2.2.2.2.2.2 i hi) (Zsx (w0:=w) (by omega)) e _ 1 [] 0 w3 HOK.out (by omega) (by have:=HS.out;omega) HE.out ⟨HB2.out.trans (hb3.mono HB2.out.size),hy3⟩)
 have g0:=(hb3.cell (p:=⟨w.heap.size,0,none⟩) (Zaa f0)).trans f0;have g1:=(hb3.cell (p:=⟨w.heap.size,1,none⟩) (Zaa f1)).trans f1;have g2:=(hb3.cell (p:=⟨w.heap.size,2,none⟩) (Zaa f2)).trans f2;have HZ:=Hd hz2;clear hb3 hy3 hw3 f0 f1 f2 hz2;go_upto_region 4 with fail;rw[HW3.out];go_wp2_with fail;refine HWK.out.mono ?_;rintro y w4 ⟨b,rfl,hyes,hno⟩;cases b with
 | false=>exact((hno rfl).2).elim
 | true =>
   have HI4:=Hd (hyes rfl).2;clear hyes hno HWK g0 g1 g2 HW3;go_upto_region 6 with fail;obtain⟨c0,hc0⟩:∃ c0,c0=(Zkd ([]++Zbe e)).toArray:=⟨_,rfl⟩;have hz:c0.size=64:=by rw[hc0];simp[Zkd]
   have hld:(Instr.loadAt 206 (.pointer (some ⟨w2.heap.size,0,none⟩))).run Tryz.prog w4=.ok (.agg c0) w4:=by
    have hy:=HI4.out.y;rw[<- hc0] at hy;simp only[Instr.loadAt,Instr.sureAddr,Sem.run_bind,Sem.run_pure,Result.andThen];exact run_loadVar_row _ _ _ _ c0 (0,0) _ hy Tryz.underlying206 rfl (by rw[hz];kernel_rfl)
   have HG:Hid (∀ j:Nat,j<64->c0[j]?=some (.bool (decide ((j:Int)∈Zbe e)))):=Hd fun j hj=>by
    rw[hc0];simpa using Zhz (Zbe e) hj
   have HL:=Hd (show (Zbe e).length<=4096 from Nat.le_trans (Zeq e) HS.out);have HB4:=Hd HI4.out.b;go_upto_region 6 with fail;refine wp_region_lit ?_;refine Zs0 rfl (Zt3 rfl hld) ?_;simp only[Zah];clear hld;go_wp2_with fail;rw[<- HLE.out] at HG HL;clear hc0
   go_loopw [4,5,6,14] (fun s4 _ _ s14 wr=>∃ j:Nat,j<=64/\s14=.int .i64 j/\Hid (OwnI wr w.heap.size s4 (outV L j))/\Hid (Below w.heap.size w wr)) (fun _ _ _ s14 _=>64-(intOf s14).toNat)
   case atStart=>exact⟨0,by omega,rfl,Hd (Zh7 _ _),HB4⟩
   case round =>
    obtain⟨j,hj,rfl,HO,HBR⟩:=hrel
    by_cases hlt:j<64
    ·
     have hjz:(j:Int)<64:=by omega
     obtain⟨b,hb⟩:∃ b:Bool,b=decide ((j:Int)∈L):=⟨_,rfl⟩;have hcj:=HG.out j hlt;rw[<- hb] at hcj;have hix:∀ W,(Instr.index 206 (.agg c0) (.int .i64 (j:Nat))).run Tryz.prog W=.ok (.bool b) W:=fun W=>Zmx _ _ _ _ j _ W Tryz.underlying206 (by kernel_rfl) (by simp[isAgg,run_underlying Tryz.underlying4]) hlt hcj
     clear hcj;cases b with
     | true =>
       have HOE:Hid (outV L (j+1)=outV L j++[(j:Int)]):=Hd (if_pos (of_decide_eq_true hb.symm));have hol:=Zmp L j;clear hb;go_wp2_with (at_builtin;refine Zcw _ rfl _ _ rfl w.heap.size w _ (outV L j) (j:Int) rfl rfl rfl rfl (by exact HO.out) (by omega) (by exact HBR.out.size) (by exact HBR.out) ?_;intro v' wy h1 h2 h3 h4);have HO2:Hid (OwnI wy w.heap.size v' (outV L (j+1))):=Hd (by rw[HOE.out];exact h1);have HB2:Hid (Below w.heap.size w wy):=Hd h2;clear h1 h2 h3 h4 hix;go_roundw
       case rel=>exact⟨j+1,by omega,by go_num,HO2,HB2⟩
       case measure=>simp[intOf];omega
     | false =>
       have HOE:Hid (outV L (j+1)=outV L j):=Hd (if_neg (of_decide_eq_false hb.symm));clear hb;go_wp2_with fail;go_roundw
       case rel=>exact⟨j+1,by omega,by go_num,by rw[HOE.out];exact HO,HBR⟩
       case measure=>simp[intOf];omega
    ·
     obtain rfl:j=64:=by omega
     have hF:Hid (∃ v,Ending.returned u4=.returned v/\OwnI wr w.heap.size v (outV L 64)/\Below w.heap.size w wr):=Hd ⟨_,rfl,HO.out,HBR.out⟩;go_wp2_with fail;go_ret;exact hF.out
open Go.RowKit
theorem Zrw (args:Array Value) (w:World):(callFunc 123 args).run Tryz.prog w=.ok (.enter 123 args) w:=enters_of Tryz.func123 (by kernel_rfl) rfl args w
section
variable {K:Law} {n:Nat} {Od:List Nat->Prop} {room:Nat} {w0 w:World} {mb xb:Nat} {fs:List (Int×BF)} {nx:Int} {o:Own} {m:ManD} {V:Nat->BF} {ws0:List Ev} {e:ExT} {x:Value} {A:Nat->Prop}
theorem Ya5 (hK:Zbp K) {be:Nat} {op v:Int} {a:Option Addr} {nk c:Nat} (hg:Zkz n e) (hm:Zc6 (K m.d V) o w mb m) (hlt:Zak o w) (hx:Zdd o w xb mb) (hk:Zan m.d V) (hn:m.d.vars.length=n) (c0:w.cell? ⟨be,0,none⟩=some (.int .i64 op)) (c1:w.cell? ⟨be,1,none⟩=some (.int .i64 v)) (c2:w.cell? ⟨be,2,none⟩=some (.slice a nk c)) (he:Zbg A w e (.agg #[.int .i64 op,.int .i64 v,.slice a nk c])) (hA:∀ k,A k->k<w.heap.size/\o k=none) :
 Calls Tryz.prog 123 #[.pointer (some ⟨xb,0,none⟩),.pointer (some ⟨be,0,none⟩)] w (Zck K (Zce n e) o w mb m V fun _ V' r=>ef V' r=fnT e):=by
 have hb:=Znh hK e hg A o w xb mb m V _ hm hlt hx hk hn he hA;obtain⟨P,hP⟩:∃ P:Ending->World->Prop,P=Zck K (Zce n e) o w mb m V fun _ V' r=>ef V' r=fnT e:=⟨_,rfl⟩
 have HB:Hid (Calls Tryz.prog 124 #[.pointer (some ⟨xb,0,none⟩),.agg #[.int .i64 op,.int .i64 v,.slice a nk c]] w fun e w'=>(∃ r:Nat,e=.returned (.int .i64 r)/\P (.returned (.int .i64 r)) w')\/∃ er evt ev,e=Zb2 er evt ev/\P (Zb2 er evt ev) w'):=Hd (hb.mono fun e w' hh=>by
  have h6:=hh;rw[<- hP] at h6;rcases hh.kind with ⟨r,rfl⟩|⟨er,evt,ev,rfl⟩
  ·
   exact .inl ⟨r,rfl,h6⟩
  ·
   exact .inr ⟨er,evt,ev,rfl,h6⟩)
 rw[<- hP];clear hP hb hg hm hlt hx hk hn he hA
 go_enter Tryz.func123,Tryz.ntmps123
 go_wp2_with fail;refine HB.out.mono ?_;rintro e w' (⟨r,rfl,hp⟩|⟨er,evt,ev,rfl,hp⟩)
 ·
  have HR:=Hd hp;clear hp HB;go_wp2_with fail;exact HR.out
 ·
  have HR:=Hd hp;clear hp HB;unfold Zb2;go_wp2_with fail;exact⟨rfl,HR.out⟩
theorem Yal (hK:Zbp K) (h:SatE K n (fun _=>True) room w0 mb fs nx w o m V) (hn6:n<=64) (hs:e.size<=4096) (hx:Zbg A w e x) (hA:∀ k,A k->k<w.heap.size/\o k=none) (hok:okT e 1) (hst:m.waits <:+ ws0) (hn:nx<=549755813888) (hr:fs.length*2^n+Zce n e<=room) :
 Calls Tryz.prog 54 #[.pointer (some ⟨mb,0,none⟩),x] w fun y w' =>
  ((∃ v∈Zbe e,(n:Int)<=v)->y=.returned (.tuple #[.int .i64 0,.int .i64 9])/\Below w.heap.size w w')/\((∀ v∈Zbe e,v<(n:Int))->NewF K n room w0 mb fs nx ws0 (fnT e) o w y w'):=by
 have hmf:∀ (fn:Fn) (first cap:Array Value) (w:World),(Instr.makeFunc fn first cap).run Tryz.prog w=.ok (.func fn first cap) w:=fun _ _ _ _=>rfl
 obtain⟨op,v,a,nk,c,rfl⟩:=(hx.at).aggE;obtain⟨w1,hw1⟩:∃ w1,w1=w.alloc (.cells #[.int .i64 op,.int .i64 v,.slice a nk c] 86):=⟨_,rfl⟩;have HW1:Hid (_=w1):=Hd hw1.symm;have hb1:Below w.heap.size w w1:=by rw[hw1];exact Zad _ _
 have hz1:w1.heap.size=w.heap.size+1:=by rw[hw1];simp
 have hx1:w1.heap[w.heap.size]?=some (.cells #[.int .i64 op,.int .i64 v,.slice a nk c] 86 (0,0)):=by rw[hw1];exact heap_alloc_new _ _
 have d0:w1.cell? ⟨w.heap.size,0,none⟩=some (.int .i64 op):=by rw[cell_of_row _ _ 0 _ _ _ hx1];rfl
 have d1:w1.cell? ⟨w.heap.size,1,none⟩=some (.int .i64 v):=by rw[cell_of_row _ _ 1 _ _ _ hx1];rfl
 have d2:w1.cell? ⟨w.heap.size,2,none⟩=some (.slice a nk c):=by rw[cell_of_row _ _ 2 _ _ _ hx1];rfl
 have HAT:=Hd hx.at;have HCK:=Hd (Zlg e _ w1 hs ((hx.at).below hb1));rw[(Zl5 hx.at).2 hok] at HCK;have HB1:=Hd hb1;have HZ1:=Hd hz1;have HVS:Hid (∀ W,Below w.heap.size w W->Calls Tryz.prog 122 #[.agg #[.int .i64 op,.int .i64 v,.slice a nk c]] W fun y w'=>∃ v,y=.returned v/\OwnI w' W.heap.size v (outV (Zbe e) 64)/\Below W.heap.size W w'):=Hd fun W hb=>Zv2 e _ W hs ((hx.at).below hb) hok
 have HVN:Hid (∀ W,Below w.heap.size w W->Calls Tryz.prog 74 #[.pointer (some ⟨mb,0,none⟩)] W fun x w'=>x=.returned (.int .i64 n)/\W=w'):=Hd fun W hb=>(h.below hb).vars_any
 obtain⟨P,hP⟩:∃ P:Ending->World->Prop,P=fun y w'=>((∃ v∈Zbe e,(n:Int)<=v)->y=.returned (.tuple #[.int .i64 0,.int .i64 9])/\Below w.heap.size w w')/\((∀ v∈Zbe e,v<(n:Int))->NewF K n room w0 mb fs nx ws0 (fnT e) o w y w'):=⟨_,rfl⟩
 obtain⟨L,hL⟩:∃ L,L=outV (Zbe e) 64:=⟨_,rfl⟩;have hmem:∀ z,z∈L↔z∈Zbe e:=fun z=>by
  rw[hL,Zqt];refine⟨fun h=>h.1,fun h=>⟨h,?_⟩⟩;exact Zqs hok z h
 have hll:L.length<=64:=by rw[hL];exact Zmp _ _
 have HNINE:Hid (∀ j W,j<L.length->(n:Int)<=at0 L j->Below w.heap.size w W->P (.returned (.tuple #[.int .i64 0,.int .i64 9])) W):=Hd fun j W hj hz hb=>by
  rw[hP];have hin:at0 L j∈Zbe e:=by rw[Zcb hj];exact(hmem _).1 (List.getElem_mem hj)
  refine⟨fun _=>⟨rfl,hb⟩,fun hv=>?_⟩;have:=hv _ hin;omega
 have HDO:Hid (∀ W,Below w.heap.size w W->(∀ q,q<L.length->at0 L q<(n:Int))->W.cell? ⟨w.heap.size,0,none⟩=some (.int .i64 op)->W.cell? ⟨w.heap.size,1,none⟩=some (.int .i64 v)->W.cell? ⟨w.heap.size,2,none⟩=some (.slice a nk c) ->
  Calls Tryz.prog 75 #[.pointer (some ⟨mb,0,none⟩),.func (.func 123) #[] #[.pointer (some ⟨w.heap.size,0,none⟩)]] W fun y w'=>∃ p q,y=.returned (.tuple #[.int .i64 p,.int .i64 q])/\P y w'):=Hd fun W hb hlt c0 c1 c2=>by
  have hvn:∀ z∈Zbe e,z<(n:Int):=fun z hz=>by
   obtain⟨q,hq,rfl⟩:=List.getElem_of_mem ((hmem z).2 hz);have:=hlt q hq
   rwa [Zcb hq] at this
  have hgood:Zkz n e:=⟨hok.valid,hvn⟩
  refine(Ztx (K:=K) (C:=fun k=>k=w.heap.size\/(A k/\w0.heap.size<=k)) (B:=fun W=>(W.cell? ⟨w.heap.size,0,none⟩=some (.int .i64 op)/\W.cell? ⟨w.heap.size,1,none⟩=some (.int .i64 v)/\W.cell? ⟨w.heap.size,2,none⟩=some (.slice a nk c))/\∀ k,A k->w0.heap.size<=k->W.heap[k]?=w.heap[k]?) (F:=fnT e) (k:=Zce n e) (lop:=#[.pointer (some ⟨w.heap.size,0,none⟩)]) hK Zrw ws0
   (fun W W' hB hk=>⟨⟨(World.cell?_of_block (w:=W) (a:=⟨w.heap.size,0,none⟩) (hk _ (.inl rfl))).trans hB.1.1,(World.cell?_of_block (w:=W) (a:=⟨w.heap.size,1,none⟩) (hk _ (.inl rfl))).trans hB.1.2.1,(World.cell?_of_block (w:=W) (a:=⟨w.heap.size,2,none⟩) (hk _ (.inl rfl))).trans hB.1.2.2⟩,fun k ha hz=>(hk k (.inr ⟨ha,hz⟩)).trans (hB.2 k ha hz)⟩)
   (fun o' W' m' V' xb hs' hB hC hx' _=>?_) h hb (fun k hk=>?_) ⟨⟨c0,c1,c2⟩,fun k ha _=>hb.block k (hA k ha).1⟩ hst hn hr).mono ?_
  ·
   have hAk:∀ k,A k->W'.heap[k]?=w.heap[k]?:=fun k ha=>by
    rcases Nat.lt_or_ge k w0.heap.size with hz|hz
    ·
     exact(hs'.chg.below0.block k hz).trans (h.chg.below0.block k hz).symm
    ·
     exact hB.2 k ha hz
   refine Ya5 hK hgood hs'.is hs'.lt hx' hs'.ok.store hs'.vars hB.1.1 hB.1.2.1 hB.1.2.2 (Zbg.keep hAk _ hx) (fun k ha=>?_);rcases Nat.lt_or_ge k w0.heap.size with hz|hz
   ·
    exact⟨Nat.lt_of_lt_of_le hz hs'.chg.size,hs'.none0 hz⟩
   ·
    exact hC k (.inr ⟨ha,hz⟩)
  ·
   rcases hk with rfl|⟨ha,hz⟩
   ·
    exact⟨Zaa c0,.inl (Nat.le_refl _)⟩
   ·
    exact⟨Nat.lt_of_lt_of_le (hA k ha).1 hb.size,.inr ⟨hz,(hA k ha).2,fun W hW=>hW.2 k ha hz⟩⟩
  ·
   intro y w' hy;refine⟨nx,0,hy.1,?_⟩;rw[hP];refine⟨fun⟨z,hz,hle⟩=>?_,fun _=>hy⟩;have:=hvn z hz;omega
 rw[<- hP];rw[<- hL] at HVS;clear hP hmem hL hw1 hb1 hx1 h hs hx hok hst hn hr hK hA hz1
 go_enter Tryz.func54,Tryz.ntmps54
 go_upto_region 1 with fail;rw[HW1.out];go_wp2_with fail;refine HCK.out.mono ?_;rintro y w2 ⟨rfl,hb2⟩;have HB2:=Hd (HB1.out.trans (hb2.mono HB1.out.size));have f0:=(hb2.cell (p:=⟨w.heap.size,0,none⟩) (Zaa d0)).trans d0;have f1:=(hb2.cell (p:=⟨w.heap.size,1,none⟩) (Zaa d1)).trans d1;have f2:=(hb2.cell (p:=⟨w.heap.size,2,none⟩) (Zaa d2)).trans d2;have HV2:=Hd (HVS.out w2 HB2.out);clear hb2 d0 d1 d2 HCK HW1 HVS;go_wp2_with fail;refine HV2.out.mono ?_;rintro y w3 ⟨vv,rfl,hown,hb3⟩;have HB3:=Hd (HB2.out.trans (hb3.mono HB2.out.size));have g0:=(hb3.cell (p:=⟨w.heap.size,0,none⟩) (Zaa f0)).trans f0;have g1:=(hb3.cell (p:=⟨w.heap.size,1,none⟩) (Zaa f1)).trans f1;have g2:=(hb3.cell (p:=⟨w.heap.size,2,none⟩) (Zaa f2)).trans f2;obtain⟨av,cv,rfl,hav⟩:∃ a c,vv=.slice a L.length c/\Za4 w3 a L:=by
  obtain⟨a,c,e1,e2⟩:=hown.sliceIs (by omega);exact⟨a,c,e1,e2.1⟩
 have HAV:=Hd hav;have HVN3:=Hd (HVN.out w3 HB3.out);have HD3:=Hd (HDO.out w3 HB3.out);have HG0:=Hd g0;have HG1:=Hd g1;have HG2:=Hd g2;clear hown hb3 f0 f1 f2 hav HV2 HVN HDO g0 g1 g2;go_wp2_with fail
 go_loopw [4,5,8,19] (fun _ _ _ s19 wr=>∃ j:Nat,j<=L.length/\s19=.int .i64 j/\wr=w3/\Hid (∀ q,q<j->at0 L q<(n:Int))) (fun _ _ _ s19 _=>L.length-(intOf s19).toNat)
 case atStart=>exact⟨0,Nat.zero_le _,rfl,rfl,Hd fun q hq=>by omega⟩
 case round =>
  obtain⟨j,hj,rfl,rfl,HQ⟩:=hrel
  by_cases hlt:j<L.length
  ·
   have hjz:(j:Int)<(L.length:Int):=by omega
   obtain⟨b,off,rfl,ck⟩:=HAV.out.cells j hlt;obtain⟨z,hz⟩:∃ z,z=at0 L j:=⟨_,rfl⟩;rw[<- hz] at ck;have HZ:=Hd hz;clear hz;go_wp2_with fail;refine HVN3.out.mono ?_;rintro y w' ⟨rfl,rfl⟩
   by_cases hzn:z>=(n:Int)
   ·
    have HF:=Hd (HNINE.out j _ hlt (by rw[<- HZ.out];exact hzn) HB3.out);go_wp2_with fail;exact HF.out
   ·
    have HQ2:Hid (∀ q,q<j+1->at0 L q<(n:Int)):=Hd fun q hq=>by
     rcases Nat.lt_or_ge q j with h|h
     ·
      exact HQ.out q h
     ·
      obtain rfl:q=j:=by omega
      rw[<- HZ.out];omega
    go_wp2_with fail;go_roundw
    case rel=>exact⟨j+1,by omega,by go_num,by trivial,HQ2⟩
    case measure=>simp[intOf];omega
  ·
   obtain rfl:j=L.length:=by omega
   have hjz:¬ (L.length:Int)<(L.length:Int):=by omega
   have HD:=Hd (HD3.out HQ.out HG0.out HG1.out HG2.out);clear HD3 HQ;go_wp2_with fail;refine HD.out.mono ?_;rintro y w' ⟨p,q,rfl,hp⟩;have HF:=Hd hp;clear hp HD;go_wp2_with fail;exact HF.out
end
open Go.RowKit
theorem Zy3 (w:World) (g:Fn) (fs cs:Array Value):(binOp .eql 166 (.func g fs cs) .nilFunc).run Tryz.prog w=.ok (.bool false) w:=by
 have hd:Op.maxDepth=9999+1:=rfl;have h:(Op.equal 166 (.func g fs cs) .nilFunc).run Tryz.prog w=.ok false w:=by
  unfold Op.equal;rw[hd];unfold Op.equalIn;simp only[Sem.run_bind,run_underlying Tryz.underlying166,Result.andThen_ok];simp
 simp only[binOp];simp[h]
section
variable {K:Law} {n:Nat} {Od:List Nat->Prop} {room:Nat} {w0:World} {mb:Nat} {fs:List (Int×BF)} {nx:Int} {C:Nat->Prop} {B:World->Prop} {St:ManD->Prop} {gop:Nat} {lop:Array Value} {Q:World->ManD->(Nat->BF)->Prop} {E:Int->ManD->ManD->Prop}
def OpL (K:Law) (n:Nat) (Od:List Nat->Prop) (room:Nat) (w0:World) (mb:Nat) (fs:List (Int×BF)) (nx:Int) (C:Nat->Prop) (B:World->Prop) (St:ManD->Prop) (gop:Nat) (lop:Array Value) (Q:World->ManD->(Nat->BF)->Prop) (E:Int->ManD->ManD->Prop):Prop :=
 ∀ (o:Own) (W:World) (m:ManD) (V:Nat->BF) (xb:Nat),SatE K n Od room w0 mb fs nx W o m V->B W->(∀ k,C k->k<W.heap.size/\o k=none)->St m->Zdd o W xb mb->¬ C xb ->
  Calls Tryz.prog gop (#[.pointer (some ⟨xb,0,none⟩)]++lop) W fun e w'=>∃ (o':Own) (m':ManD) (V':Nat->BF),Zih C K o W mb m V o' w' m' V'/\B w' /\
   ((e=.returned (.tuple #[])/\Q w' m' V') \/
    (∃ er:Int,e=Zb2 er false ev0/\er≠0/\m'.waits=m.waits/\St m'/\E er m m') \/
    (∃ ev,e=Zb2 0 true ev/\m.waits=ev::m'.waits/\StE K n Od room w0 mb fs nx St m'/\HapG K n Od room w0 mb fs nx ev))
structure Zrd (K:Law) (n:Nat) (Od:List Nat->Prop) (room:Nat) (w0:World) (mb:Nat) (fs:List (Int×BF)) (nx:Int) (C:Nat->Prop) (B:World->Prop) (St:ManD->Prop) (o0:Own) (w:World) (k:Nat) (full:Bool) (W:World) (o:Own) (m:ManD) (V:Nat->BF):Prop where
 sat:SatE K n Od room w0 mb fs nx W o m V
 bok:B W
 st:St m
 len:m.waits.length=k
 cok:∀ c,C c->c<w.heap.size/\o c=none
 chg:ChgX C o0 o w W
 clean:full=true->m.d.dead=0
def Zz2 (K:Law) (n:Nat) (Od:List Nat->Prop) (room:Nat) (w0:World) (mb:Nat) (fs:List (Int×BF)) (nx:Int) (C:Nat->Prop) (B:World->Prop) (Q:World->ManD->(Nat->BF)->Prop) (E:Int->ManD->ManD->Prop) (o0:Own) (w:World) (er:Int) (W:World):Prop :=
 ∃ o m V,SatE K n Od room w0 mb fs nx W o m V/\B W/\ChgX C o0 o w W/\((er=0/\Q W m V)\/(er≠0/\∃ m0:ManD,E er m0 m/\(er=7->m0.d.dead=0)))
theorem Zut (hB:∀ W W',B W->(∀ c,C c->W'.heap[c]?=W.heap[c]?)->B W') (hQ:∀ W W' m V,Q W m V->(∀ c,C c->W'.heap[c]?=W.heap[c]?)->Q W' m V) (hSt:∀ (m:ManD) (d:Zag),St m->Zbd m.d d->St { m with d:=d }) (hC0:∀ c,C c->w0.heap.size<=c) (eg:∀ args w,(callFunc gop args).run Tryz.prog w=.ok (.enter gop args) w)
 (hop:OpL K n Od room w0 mb fs nx C B St gop lop Q E) {o:Own} {w:World} {m:ManD} {V:Nat->BF} (h:SatE K n Od room w0 mb fs nx w o m V) (hb:B w) (hC:∀ c,C c->c<w.heap.size/\o c=none) (hst:St m) :
 Calls Tryz.prog 144 #[.pointer (some ⟨mb,0,none⟩),.func (.func gop) #[] lop] w fun x w'=>∃ er,x=.returned (.int .i64 er)/\Zz2 K n Od room w0 mb fs nx C B Q E o w er w':=by
 have hw0:=h.chg.size;have hother:∀ {k full W W' o1 m1 V1},Zrd K n Od room w0 mb fs nx C B St o w k full W o1 m1 V1->∀ {s:Nat},w.heap.size<=s->o1 s=none->o1 (s+1)=none->Ali s W W'->Zrd K n Od room w0 mb fs nx C B St o w k full W' o1 m1 V1:=by
  intro k full W W' o1 m1 V1 hi s hs n0 n1 a;have hk:∀ k,k<w.heap.size->W'.heap[k]?=W.heap[k]?:=fun k hk=>a.keep k (by have:=hi.chg.size;omega) (by omega)
  refine⟨hi.sat.other a (fun k _ e=>?_),hB _ _ hi.bok (fun c hc=>hk c (hi.cok c hc).1),hi.st,hi.len,hi.cok,hi.chg.trans (ChgX.of_wr (C:=fun k=>w.heap.size<=k) a o1 (fun k _ e=>by omega)) (fun k hk e=>by omega),hi.clean⟩;rcases e with rfl|rfl
  ·
   exact⟨by omega,n0⟩
  ·
   exact⟨by omega,n1⟩
 have hnext:∀ {k full full' W W' o1 m1 V1 o2 m2 V2},Zrd K n Od room w0 mb fs nx C B St o w k full W o1 m1 V1->SatE K n Od room w0 mb fs nx W' o2 m2 V2->ChgX NoB o1 o2 W W'->m2.waits=m1.waits->St m2->(full'=true->m2.d.dead=0)->Zrd K n Od room w0 mb fs nx C B St o w k full' W' o2 m2 V2:=by
  intro k full full' W W' o1 m1 V1 o2 m2 V2 hi hsat hc e1 e2 e3;have hsz:=hi.chg.size;exact⟨hsat,hB _ _ hi.bok (fun c hc'=>hc.block c (by have:=(hi.cok c hc').1;omega) (hi.cok c hc').2 (fun e=>e)),e2,by rw[e1];exact hi.len,fun c hc'=>⟨(hi.cok c hc').1,hc.none' (by have:=(hi.cok c hc').1;omega) (hi.cok c hc').2⟩,hi.chg.trans hc (fun _ _ e=>e.elim),e3⟩
 refine Zvl mb _ _ _ eg (fun k full W=>∃ o1 m1 V1,Zrd K n Od room w0 mb fs nx C B St o w k full W o1 m1 V1) _ ?_ m.waits.length ⟨o,m,V,h,hb,hst,rfl,hC,ChgX.of_below (Below.refl _ _) o C,by simp⟩;rintro k full W ⟨o1,m1,V1,hi⟩;have hsz:=hi.chg.size;obtain⟨s,hs⟩:∃ s,s=W.heap.size:=⟨_,rfl⟩
 refine⟨fun st W1=>match st with
  | none=>∃ (o':Own) (m':ManD) (V':Nat->BF),SatE K n Od room w0 mb fs nx W1 o' m' V'/\B W1/\ChgX C o o' w W1/\s+3<=W1.heap.size/\(∀ q,w.heap.size<=q->q<s+3->o1 q=none->o' q=none)/\Q W1 m' V'
  | some (er,evt,ev)=>∃ (o':Own) (m':ManD) (V':Nat->BF),Zrd K n Od room w0 mb fs nx C B St o w m'.waits.length false W1 o' m' V'/\s+3<=W1.heap.size/\(∀ q,w.heap.size<=q->q<s+3->o1 q=none->o' q=none) /\
   ((evt=false/\er≠0/\m'.waits=m1.waits/\E er m1 m')\/(evt=true/\m1.waits=ev::m'.waits/\StE K n Od room w0 mb fs nx St m'/\HapG K n Od room w0 mb fs nx ev)),?_,?_,?_,?_,?_⟩
 ·
  unfold Zta;have hbt:Below W.heap.size W (tryW mb W):=((Zad _ _).alloc (by simp) _).alloc (by simp;omega) _;have hzt:(tryW mb W).heap.size=W.heap.size+3:=by unfold tryW;simp
  obtain⟨T,hT⟩:∃ T,T=tryW mb W:=⟨_,rfl⟩;have h1:(tryW mb W).heap[W.heap.size+2]?=some (.cells #[.pointer (some ⟨mb,0,none⟩)] 170 (0,0)):=by
   have:=heap_alloc_new ((W.alloc (.cells #[.int .i64 0,.bool false,.int .i64 0,.int .i64 0,.int .i64 0] 172)).alloc (.cells #[.bool false] 4)) (.cells #[.pointer (some ⟨mb,0,none⟩)] 170);rw[World.size_alloc,World.size_alloc] at this;exact this
  rw[<- hT] at hbt hzt h1 ⊢;clear hT;have hsatT:=hi.sat.below hbt;have hcx:Zdd o1 T (W.heap.size+2) mb:=⟨cell1 h1,hi.sat.lt.none (by omega)⟩;have hC':∀ q,w.heap.size<=q->¬ C q:=fun q hq e=>by have:=(hi.cok q e).1;omega
  have hkeep:∀ {o':Own} {w1:World},ChgX C o1 o' T w1->∀ q,w.heap.size<=q->q<s+3->o1 q=none->w1.heap[q]?=T.heap[q]?:=fun hc q h1 h2 h3=>hc.block q (by omega) h3 (hC' q h1)
  have n0:o1 W.heap.size=none:=hi.sat.lt.none (Nat.le_refl _);have n1:o1 (W.heap.size+1)=none:=hi.sat.lt.none (by omega);refine(hop o1 T m1 V1 (W.heap.size+2) hsatT (hB _ _ hi.bok (fun c hc=>hbt.block c (by have:=(hi.cok c hc).1;omega))) (fun c hc=>⟨by have:=(hi.cok c hc).1;omega,(hi.cok c hc).2⟩) hi.st hcx (hC' _ (by omega))).mono ?_;rintro e w1 ⟨o',m',V',st,b1,hcase⟩;have hsz1:=st.chg.size;have hc1:=(hi.chg.trans (ChgX.of_below hbt o1 C) (fun _ _ e=>e)).trans st.chg (fun _ _ e=>e);refine⟨by omega,hkeep st.chg _ (by omega) (by omega) n0,hkeep st.chg _ (by omega) (by omega) n1,?_⟩;have hnone:∀ q,w.heap.size<=q->q<s+3->o1 q=none->o' q=none:=fun q _ h2 h3=>st.chg.none' (by omega) h3
  have hcok:∀ c,C c->c<w.heap.size/\o' c=none:=fun c hc=>⟨(hi.cok c hc).1,st.chg.none' (by have:=(hi.cok c hc).1;omega) (hi.cok c hc).2⟩
  rcases hcase with ⟨rfl,q1⟩|⟨er,rfl,q1,q2,q3,q4⟩|⟨ev,rfl,q1,q2,q3⟩
  ·
   exact .inl ⟨rfl,o',m',V',hsatT.step st hC0,b1,hc1,by omega,hnone,q1⟩
  ·
   exact .inr ⟨er,false,ev0,rfl,o',m',V',⟨hsatT.step st hC0,b1,q3,rfl,hcok,hc1,by simp⟩,by omega,hnone,.inl ⟨rfl,q1,q2,q4⟩⟩
  ·
   exact .inr ⟨0,true,ev,rfl,o',m',V',⟨hsatT.step st hC0,b1,q2 _ _ _ _ (hsatT.step st hC0) rfl rfl (.inl (Nat.le_refl _)),rfl,hcok,hc1,by simp⟩,by omega,hnone,.inr ⟨rfl,q1,q2,q3⟩⟩
 ·
  rintro W1 W2 ⟨o',m',V',a1,a2,a3,a4,a5,a8⟩ al;rw[<- hs] at al;have n0:o' s=none:=a5 s (by omega) (by omega) (by rw[hs];exact hi.sat.lt.none (Nat.le_refl _));have n1:o' (s+1)=none:=a5 (s+1) (by omega) (by omega) (by rw[hs];exact hi.sat.lt.none (by omega));have hk:∀ c,C c->W2.heap[c]?=W1.heap[c]?:=fun c hc=>al.keep c (by have:=(hi.cok c hc).1;omega) (by have:=(hi.cok c hc).1;omega)
  refine⟨o',m',V',a1.other al (fun k _ e=>?_),hB _ _ a2 hk,a3.trans (ChgX.of_wr (C:=fun k=>w.heap.size<=k) al o' (fun k _ e=>by omega)) (fun k hk e=>by omega),.inl ⟨rfl,hQ _ _ _ _ a8 hk⟩⟩;rcases e with rfl|rfl
  ·
   exact⟨by omega,n0⟩
  ·
   exact⟨by omega,n1⟩
 ·
  rintro er ev W1 W2 ⟨o',m',V',hi',a4,a5,(⟨h1,_⟩|⟨_,hev,hvs,hap⟩)⟩ al
  ·
   cases h1
  rw[<- hs] at al;have n0:o' s=none:=a5 s (by omega) (by omega) (by rw[hs];exact hi.sat.lt.none (Nat.le_refl _));have n1:o' (s+1)=none:=a5 (s+1) (by omega) (by omega) (by rw[hs];exact hi.sat.lt.none (by omega));have hi2:=hother hi' (by omega) n0 n1 al;refine(hap o' W2 m' V' hi2.sat).mono ?_;rintro x w' ⟨rfl,o2,m2,V2,g1,g2,g3,g5,g4⟩;exact⟨rfl,m'.waits.length,by rw[<- hi.len,hev];simp,o2,m2,V2,hnext hi2 g1 g4 g2 (hvs _ _ _ _ g1 g2 g3 g5) (by simp)⟩
 ·
  rintro ev W1 W2 ⟨o',m',V',hi',a4,a5,(⟨_,_,hw,_⟩|⟨h1,_⟩)⟩ al hfull
  ·
   rw[<- hs] at al;have n0:o' s=none:=a5 s (by omega) (by omega) (by rw[hs];exact hi.sat.lt.none (Nat.le_refl _));have n1:o' (s+1)=none:=a5 (s+1) (by omega) (by omega) (by rw[hs];exact hi.sat.lt.none (by omega));have hi2:=hother hi' (by omega) n0 n1 al;refine(Zg3 hi2.sat).mono ?_;rintro x w' ⟨rfl,o2,d2,g1,g2,g3⟩;have hi3:=hnext (full':=true) hi2 g1 (ChgX.of_chg g3 NoB) rfl (hSt _ _ hi2.st g2) (fun _=>g2.dead);rw[hw,hi.len] at hi3;exact⟨⟨_,rfl⟩,o2,_,V',hi3⟩
  ·
   cases h1
 ·
  rintro er ev W1 W2 ⟨o',m',V',hi',a4,a5,(⟨_,h0,hw,hE⟩|⟨h1,_⟩)⟩ al hne
  ·
   rw[<- hs] at al;have n0:o' s=none:=a5 s (by omega) (by omega) (by rw[hs];exact hi.sat.lt.none (Nat.le_refl _));have n1:o' (s+1)=none:=a5 (s+1) (by omega) (by omega) (by rw[hs];exact hi.sat.lt.none (by omega));have hi2:=hother hi' (by omega) n0 n1 al;refine⟨o',m',V',hi2.sat,hi2.bok,hi2.chg,.inr ⟨h0,m1,hE,fun e7=>hi.clean ?_⟩⟩;cases full with
   | true=>rfl
   | false=>exact(hne ⟨e7,rfl⟩).elim
  ·
   cases h1
theorem Zwx (hB:∀ W W',B W->(∀ c,C c->W'.heap[c]?=W.heap[c]?)->B W') (hQ:∀ W W' m V,Q W m V->(∀ c,C c->W'.heap[c]?=W.heap[c]?)->Q W' m V) (hSt:∀ (m:ManD) (d:Zag),St m->Zbd m.d d->St { m with d:=d }) (hC0:∀ c,C c->w0.heap.size<=c) (eg:∀ args w,(callFunc gop args).run Tryz.prog w=.ok (.enter gop args) w)
 (hop:OpL K n Od room w0 mb fs nx C B St gop lop Q E) {o:Own} {w:World} {m:ManD} {V:Nat->BF} (h:SatE K n Od room w0 mb fs nx w o m V) (hb:B w) (hC:∀ c,C c->c<w.heap.size/\o c=none) (hst:St m) :
 Calls Tryz.prog 176 #[.pointer (some ⟨mb,0,none⟩),.func (.func gop) #[] lop] w fun x w'=>∃ er,x=.returned (.int .i64 er)/\Zz2 K n Od room w0 mb fs nx C B Q E o w er w':=by
 have HRUN:=Hd (Zut hB hQ hSt hC0 eg hop h hb hC hst);have hnf:=Zy3 w (.func gop) #[] lop;clear h hb hB hQ hSt hC0 hop hC hst
 go_enter Tryz.func176,Tryz.ntmps176
 go_wp2_with fail;refine HRUN.out.mono ?_;rintro x w1 ⟨er,rfl,hf⟩;have HF:=Hd hf;clear hf HRUN;go_wp2_with fail;go_ret;exact⟨er,rfl,HF.out⟩
end
open Go.RowKit
theorem Zrv (args:Array Value) (w:World):(callFunc 177 args).run Tryz.prog w=.ok (.enter 177 args) w:=enters_of Tryz.func177 (by kernel_rfl) rfl args w
theorem Zih.write {K:Law} {C D:Nat->Prop} {o o':Own} {w w' w'':World} {mb:Nat} {m m':ManD} {V V':Nat->BF} (h:Zih C K o w mb m V o' w' m' V') (hw:Wr D w' w'') (hD:∀ k,D k->C k/\o k=none/\k<w.heap.size):Zih C K o w mb m V o' w'' m' V':=by
 obtain⟨s,hm⟩:=h.is;refine⟨⟨s,hm.keep (fun g r hg=>hw.keep g (h.lt g r hg) (fun e=>?_)) (fun _ _ h=>h)⟩,h.lt.mono hw.size,h.chg.trans (ChgX.of_wr (C:=D) hw o' (fun _ _ e=>e)) (fun k _ e=>(hD k e).1),h.ok,h.ext,h.hs,h.next⟩;have:=h.chg.none' (hD g e).2.2 (hD g e).2.1;rw[this] at hg;cases hg
structure BoI (ba bf bb bw:Nat) (ka kb:Int) (g e0:Nat) (W:World):Prop where
 a:W.cell? ⟨ba,0,none⟩=some (.int .i64 ka)
 f:W.cell? ⟨bf,0,none⟩=some (.func (.func g) #[] #[])
 b:W.cell? ⟨bb,0,none⟩=some (.int .i64 kb)
 w:W.cell? ⟨bw,0,none⟩=some (.int .i64 e0)
abbrev C4 (ba bf bb bw:Nat) (k:Nat):Prop:=k=ba\/k=bf\/k=bb\/k=bw
theorem BoI.keep {ba bf bb bw:Nat} {ka kb:Int} {g e0:Nat} {W W':World} (h:BoI ba bf bb bw ka kb g e0 W) (hk:∀ c,C4 ba bf bb bw c->W'.heap[c]?=W.heap[c]?):BoI ba bf bb bw ka kb g e0 W' :=
 ⟨(World.cell?_of_block (w:=W) (a:=⟨ba,0,none⟩) (hk _ (.inl rfl))).trans h.a,(World.cell?_of_block (w:=W) (a:=⟨bf,0,none⟩) (hk _ (.inr (.inl rfl)))).trans h.f,(World.cell?_of_block (w:=W) (a:=⟨bb,0,none⟩) (hk _ (.inr (.inr (.inl rfl))))).trans h.b,(World.cell?_of_block (w:=W) (a:=⟨bw,0,none⟩) (hk _ (.inr (.inr (.inr rfl))))).trans h.w⟩
section
variable {K:Law} {n:Nat} {Od:List Nat->Prop} {room:Nat} {w0 w:World} {mb xb:Nat} {fs:List (Int×BF)} {nx:Int} {o:Own} {m:ManD} {V:Nat->BF}
theorem Ya0 {g:Nat} {G:BF->BF->BF} (hG:Zg9 K n g G) (eg:∀ args w,(callFunc g args).run Tryz.prog w=.ok (.enter g args) w) {ba bf bb bw bs e0:Nat} {ka kb:Int} {F1 F2:BF} (h1:(ka,F1)∈fs) (h2:(kb,F2)∈fs) (hsat:SatE K n Od room w0 mb fs nx w o m V) (hB:BoI ba bf bb bw ka kb g e0 w) (hs:∃ z:Bool,w.heap[bs]?=some (.cells #[.bool z] 4 (0,0))) (hno:∀ c,(C4 ba bf bb bw c\/c=bs)->o c=none) (hx:Zdd o w xb mb) :
 Calls Tryz.prog 177 #[.pointer (some ⟨xb,0,none⟩),.pointer (some ⟨ba,0,none⟩),.pointer (some ⟨bf,0,none⟩),.pointer (some ⟨bb,0,none⟩),.pointer (some ⟨bw,0,none⟩),.pointer (some ⟨bs,0,none⟩)] w fun e w' =>
  (∃ (r:Nat) (o':Own) (m':ManD) (V':Nat->BF) (w1:World),e=.returned (.tuple #[])/\AtC K (2^n-1) o w mb m V o' w1 m' V'/\okE (Zab m'.d) r/\ef V' r=G F1 F2/\w'=w1.setCell ⟨bs,0,none⟩ (.bool ((r:Int) == (e0:Int)))) \/
  (∃ er evt ev,e=Zb2 er evt ev/\Zrb K (2^n-1) o w mb m V er evt ev w'):=by
 obtain⟨f1,hf1,e1⟩:=hsat.find h1;obtain⟨f2,hf2,e2⟩:=hsat.find h2;have hk:=hsat.ok;have hbd:Below w.heap.size w w.drew:=Zai w 1;obtain⟨s,hms⟩:=hsat.is;have hmW:=hms.below hsat.lt hbd;have hlW:=hsat.lt.mono hbd.size;have hxW:Zdd o w.drew xb mb:=⟨(hbd.cell (p:=⟨xb,0,none⟩) (Zaa hx.cell)).trans hx.cell,hx.own⟩;have ca:=hB.a;have cf:=(hbd.cell (p:=⟨bf,0,none⟩) (Zaa hB.f)).trans hB.f;have cb:=(hbd.cell (p:=⟨bb,0,none⟩) (Zaa hB.b)).trans hB.b;have cw:=(hbd.cell (p:=⟨bw,0,none⟩) (Zaa hB.w)).trans hB.w;obtain⟨z,hz⟩:=hs;have hsz:bs<w.heap.size:=(Array.getElem?_eq_some_iff.1 hz).1;have hzd:=(hbd.block bs hsz).trans hz;have HE1:=Hd (Zcs hsat.is hx hk.handles.nodup hf1);have HE2:=Hd (Zcs ⟨s,hmW⟩ hxW hk.handles.nodup hf2);have hop:=hG o w.drew xb mb m V f1 f2 ⟨s,hmW⟩ hlW hxW hk.store hsat.vars (hk.handles.ok _ hf1) (hk.handles.ok _ hf2);rw[show ef V f1=F1 from e1,show ef V f2=F2 from e2] at hop;have hat:AtC K 0 o w mb m V o w.drew m V:=(AtC.refl hsat.is hsat.lt hk.store).below hbd;obtain⟨P,hP⟩:∃ P:Ending->World->Prop,P=fun e w'=>(∃ (r:Nat) (o':Own) (m':ManD) (V':Nat->BF) (w1:World),e=.returned (.tuple #[])/\AtC K (2^n-1) o w mb m V o' w1 m' V'/\okE (Zab m'.d) r/\ef V' r=G F1 F2/\w'=w1.setCell ⟨bs,0,none⟩ (.bool ((r:Int) == (e0:Int)))) \/
  (∃ er evt ev,e=Zb2 er evt ev/\Zrb K (2^n-1) o w mb m V er evt ev w'):=⟨_,rfl⟩
 have HOP:Hid (Calls Tryz.prog g #[.pointer (some ⟨xb,0,none⟩),.int .i64 f1,.int .i64 f2] w.drew fun e w'=>(∃ v,e=.returned v/\(w'.cell? ⟨bf,0,none⟩=some (.func (.func g) #[] #[])/\w'.cell? ⟨bb,0,none⟩=some (.int .i64 kb)/\w'.cell? ⟨bw,0,none⟩=some (.int .i64 e0))/\∃ r:Nat,v=.int .i64 r/\w'.cell? ⟨bs,0,none⟩=some (.bool z)/\w'.frozen? ⟨bs,0,none⟩=false/\P (.returned (.tuple #[])) (w'.setCell ⟨bs,0,none⟩ (.bool ((r:Int) == (e0:Int)))))\/(∃ ch,e=.panicked ch/\P (.panicked ch) w')):=Hd (hop.mono (by
  subst hP;rintro e w' (⟨r,o',m',V',rfl,q1,q2,q3⟩|⟨er,evt,ev,rfl,q⟩)
  ·
   have hz':w'.heap[bs]?=some (.cells #[.bool z] 4 (0,0)):=(q1.st.chg.alien (by rw[show w.drew.heap.size=w.heap.size from rfl];exact hsz) (hno bs (.inr rfl))).trans hzd;exact .inl ⟨_,rfl,⟨q1.st.chg.cell cf (hno bf (.inl (.inr (.inl rfl)))),q1.st.chg.cell cb (hno bb (.inl (.inr (.inr (.inl rfl))))),q1.st.chg.cell cw (hno bw (.inl (.inr (.inr (.inr rfl)))))⟩,r,rfl,cell1 hz',by simp[World.frozen?,hz'],.inl ⟨r,o',m',V',w',rfl,(hat.trans q1).mono (by omega),q2,q3,rfl⟩⟩
  ·
   exact .inr ⟨_,rfl,.inr ⟨er,evt,ev,rfl,q.after hat (by omega)⟩⟩))
 rw[<- hP];clear hG h1 h2 hsat hB hx hno hf1 hf2 e1 e2 hk hbd hms hmW hlW hxW hop hat hP hz hzd hsz
 go_enter Tryz.func177,Tryz.ntmps177
 go_wp2_with fail;refine HE1.out.mono ?_;rintro x w' ⟨rfl,rfl⟩;go_upto_region 1 with fail;refine Zcz (fun W:World=>W.cell? ⟨bf,0,none⟩=some (.func (.func g) #[] #[])/\W.cell? ⟨bb,0,none⟩=some (.int .i64 kb)/\W.cell? ⟨bw,0,none⟩=some (.int .i64 e0)) (fun ch w'=>P (.panicked ch) w') 10 (fun c a w hd h=>⟨hd,h⟩) (by kernel_rfl) ⟨cf,cb,cw⟩ ?_;refine Zav 0 rfl rfl (by kernel_rfl) ?_;apply Exists.intro;refine⟨fun w' hw=>?_,?_⟩
 ·
  obtain⟨q1,q2,q3⟩:=hw;go_simp;rfl
 simp only[Zah];refine Zav 1 rfl rfl (by kernel_rfl) ?_;apply Exists.intro;refine⟨fun w' hw=>?_,?_⟩
 ·
  obtain⟨q1,q2,q3⟩:=hw;go_simp;rfl
 simp only[Zah];refine Zav 2 rfl rfl (by kernel_rfl) ?_;apply Exists.intro;refine⟨fun w' hw=>?_,?_⟩
 ·
  obtain⟨q1,q2,q3⟩:=hw;go_simp;rfl
 simp only[Zah];refine Zav 3 rfl rfl (by kernel_rfl) ?_;apply Exists.intro;refine⟨fun w' hw=>?_,?_⟩
 ·
  obtain⟨q1,q2,q3⟩:=hw;go_simp;rfl
 simp only[Zah];refine Zav 4 rfl rfl (by kernel_rfl) ?_;apply Exists.intro;refine⟨fun w' hw=>?_,?_⟩
 ·
  obtain⟨q1,q2,q3⟩:=hw;go_simp;rfl
 simp only[Zah];refine Zav 7 rfl rfl (by kernel_rfl) ?_;apply Exists.intro;refine⟨fun w' hw=>?_,?_⟩
 ·
  obtain⟨q1,q2,q3⟩:=hw;go_simp;rfl
 simp only[Zah];refine Zb5 [5] (by kernel_rfl) (fun i hi hS o ho=>?_);simp only[Za6] at hi;subst hi;simp only[Za1] at ho;subst ho;refine⟨rfl,?_⟩;refine Zat (v:=.int .i64 (f2:Nat)) (R:=fun w'=>w.drew=w') (by go_simp) HE2.out ?_;rintro w' rfl;refine⟨⟨cf,cb,cw⟩,?_⟩;simp only[Zah];refine Zb5 [6] (by kernel_rfl) (fun i hi hS o ho=>?_);simp only[Za6] at hi;subst hi;simp only[Za1] at ho;subst ho;refine⟨rfl,?_⟩;refine Zfa (R:=fun v w'=>(w'.cell? ⟨bf,0,none⟩=some (.func (.func g) #[] #[])/\w'.cell? ⟨bb,0,none⟩=some (.int .i64 kb)/\w'.cell? ⟨bw,0,none⟩=some (.int .i64 e0))/\∃ r:Nat,v=.int .i64 r/\w'.cell? ⟨bs,0,none⟩=some (.bool z)/\w'.frozen? ⟨bs,0,none⟩=false/\P (.returned (.tuple #[])) (w'.setCell ⟨bs,0,none⟩ (.bool ((r:Int) == (e0:Int))))) (R2:=fun ch w'=>P (.panicked ch) w') (by go_simp) HOP.out ?_ ?_
 ·
  rintro v w2 ⟨hS,r,rfl,cs,fz,hst⟩;refine⟨hS,?_⟩;have HST:=Hd hst;clear hst;simp only[Zah];refine Zav 8 rfl rfl (by kernel_rfl) ?_;apply Exists.intro;refine⟨fun w' hw=>?_,?_⟩
  ·
   obtain⟨q1,q2,q3⟩:=hw;go_simp;rfl
  simp only[Zah];refine Zb5 [9] (by kernel_rfl) (fun i hi hS o ho=>?_);simp only[Za6] at hi;subst hi;simp only[Za1] at ho;subst ho;refine⟨rfl,?_⟩;refine Za9 (w':=w2.setCell ⟨bs,0,none⟩ (.bool ((r:Int) == (e0:Int)))) rfl (by go_simp) ?_;have hkeep:∀ (b:Nat) (v:Value),w2.cell? ⟨b,0,none⟩=some v->b≠bs->(w2.setCell ⟨bs,0,none⟩ (.bool ((r:Int) == (e0:Int)))).cell? ⟨b,0,none⟩=some v:=fun b v hc hne=>(World.cell?_of_block (w:=w2) (a:=⟨b,0,none⟩) (Zaf hne _)).trans hc
  have hne:∀ (b:Nat) (v:Value),w2.cell? ⟨b,0,none⟩=some v->(∀ y,v ≠ .bool y)->b≠bs:=fun b v hc hv e=>by
   subst e;rw[cs] at hc;exact hv z (Option.some.inj hc).symm
  refine⟨⟨hkeep _ _ hS.1 (hne _ _ hS.1 (by simp)),hkeep _ _ hS.2.1 (hne _ _ hS.2.1 (by simp)),hkeep _ _ hS.2.2 (hne _ _ hS.2.2 (by simp))⟩,?_⟩;simp only[Zah];refine Zga (by kernel_rfl) ?_;clear hS cf cb ca cw cs fz hkeep hne;go_wp2_with fail;refine bodyPost_end (results_none rfl _ _ _) rfl ?_;exact HST.out
 ·
  intro ch w' hst;exact⟨rfl,hst⟩
abbrev C5 (ba bf bb bw bs:Nat) (k:Nat):Prop:=C4 ba bf bb bw k\/k=bs
theorem Yag (hK:Zbp K) {g:Nat} {G:BF->BF->BF} (hG:Zg9 K n g G) (eg:∀ args w,(callFunc g args).run Tryz.prog w=.ok (.enter g args) w) {ba bf bb bw bs e0:Nat} {ka kb:Int} {F1 F2:BF} (h1:(ka,F1)∈fs) (h2:(kb,F2)∈fs) (hbs:¬ C4 ba bf bb bw bs) (he0:e0/2=0) {b:Bool} (hb:b=true↔G F1 F2=Zd7 e0) (ws0:List Ev) (hn:nx<=549755813888) :
 OpL K n (fun _=>True) room w0 mb fs nx (C5 ba bf bb bw bs) (fun W=>BoI ba bf bb bw ka kb g e0 W/\∃ z:Bool,W.heap[bs]?=some (.cells #[.bool z] 4 (0,0))) (fun m=>m.waits <:+ ws0) 177 #[.pointer (some ⟨ba,0,none⟩),.pointer (some ⟨bf,0,none⟩),.pointer (some ⟨bb,0,none⟩),.pointer (some ⟨bw,0,none⟩),.pointer (some ⟨bs,0,none⟩)]
  (fun W m' _=>W.cell? ⟨bs,0,none⟩=some (.bool b)/\m'.waits <:+ ws0) (fun er m0 _=>er=7/\(∃ W o V,SatE K n (fun _=>True) room w0 mb fs nx W o m0 V)/\room+1<=m0.d.pool.many+(2^n-1)):=by
 intro o W m V xb hsat hB hC hst hcx hnx;obtain⟨hB,z,hz⟩:=hB;refine(Ya0 hG eg h1 h2 hsat hB ⟨z,hz⟩ (fun c hc=>(hC c hc).2) hcx).mono ?_;have hkeep:∀ {o':Own} {w':World} {m':ManD} {V':Nat->BF},Step K o W mb m V o' w' m' V'->BoI ba bf bb bw ka kb g e0 w'/\w'.heap[bs]?=some (.cells #[.bool z] 4 (0,0)):=fun st=>⟨hB.keep fun c hc=>st.chg.alien (hC c (.inl hc)).1 (hC c (.inl hc)).2,(st.chg.alien (hC bs (.inr rfl)).1 (hC bs (.inr rfl)).2).trans hz⟩
 rintro e w' (⟨r,o',m',V',w1,rfl,q1,q2,q3,rfl⟩|⟨er,evt,ev,rfl,o',m',V',st,⟨rfl,rfl,rfl,a4,a5,a6⟩|⟨rfl,rfl,a3⟩⟩)
 ·
  obtain⟨k1,k2⟩:=hkeep q1.st;have hz':(w1.setCell ⟨bs,0,none⟩ (.bool ((r:Int) == (e0:Int)))).heap[bs]?=some (.cells #[.bool ((r:Int) == (e0:Int))] 4 (0,0)):=Zae k2 _;refine⟨o',m',V',(q1.st.toX _).write (D:=fun k=>k=bs) ((Wr.refl (fun k=>k=bs) w1).setCell (p:=⟨bs,0,none⟩) (.inl rfl) _) (fun k hk=>by subst hk;exact⟨.inr rfl,(hC _ (.inr rfl)).2,(hC _ (.inr rfl)).1⟩),⟨k1.keep fun c hc=>Zaf (fun e=>hbs (by subst e;exact hc)) _,_,hz'⟩,.inl ⟨rfl,?_,by show m'.waits <:+ ws0;rw[q1.waits];exact hst⟩⟩;rw[cell1 hz'];have hbe:((r:Int) == (e0:Int))=b:=by
   rw[<- q3,<- Zht q1.st.ok he0,q1.st.ok.dag.canon_iff q2 (show okE (Zab m'.d) e0 from .inl he0)] at hb;rw[Bool.eq_iff_iff,hb,beq_iff_eq];omega
  rw[hbe]
 ·
  obtain⟨k1,k2⟩:=hkeep st;exact⟨o',m',V',st.toX _,⟨k1,z,k2⟩,.inr (.inl ⟨7,rfl,by omega,a4,by show m'.waits <:+ ws0;rw[a4];exact hst,rfl,⟨_,_,_,hsat⟩,by rw[<- hsat.room,<- st.ext.room,<- a5];exact a6⟩)⟩
 ·
  obtain⟨k1,k2⟩:=hkeep st;have hst':m.waits <:+ ws0:=hst;rw[a3] at hst';exact⟨o',m',V',st.toX _,⟨k1,z,k2⟩,.inr (.inr ⟨ev,rfl,a3,fun _ _ m2 _ _ e _ _=>by show m2.waits <:+ ws0;rw[e];exact(List.suffix_cons ev m'.waits).trans hst',Zin hn ev⟩)⟩
theorem boxes5v (w:World) (x y z u v:Value) (s t p q r:TypeId):∃ w5,w5=((((w.alloc (.cells #[x] s)).alloc (.cells #[y] t)).alloc (.cells #[z] p)).alloc (.cells #[u] q)).alloc (.cells #[v] r)/\Below w.heap.size w w5/\w5.heap.size=w.heap.size+5/\w5.cell? ⟨w.heap.size,0,none⟩=some x/\w5.cell? ⟨w.heap.size+1,0,none⟩=some y/\w5.cell? ⟨w.heap.size+1+1,0,none⟩=some z/\w5.cell? ⟨w.heap.size+1+1+1,0,none⟩=some u/\w5.heap[w.heap.size+1+1+1+1]?=some (.cells #[v] r (0,0)):=by
 obtain⟨w3,h3,hb,hz,c0,c1,c2⟩:=boxes3v w x y z s t p;refine⟨_,rfl,?_,?_,?_,?_,?_,?_,?_⟩<;>rw[<- h3]
 ·
  exact(hb.alloc (by omega) _).alloc (by simp;omega) _
 ·
  simp[hz]
 ·
  exact(World.cell?_of_block (w:=w3) (a:=⟨w.heap.size,0,none⟩) ((Go.heap_alloc_old _ _ (by simp;omega)).trans (Go.heap_alloc_old _ _ (by show w.heap.size<_;omega)))).trans c0
 ·
  exact(World.cell?_of_block (w:=w3) (a:=⟨w.heap.size+1,0,none⟩) ((Go.heap_alloc_old _ _ (by simp;omega)).trans (Go.heap_alloc_old _ _ (by show w.heap.size+1<_;omega)))).trans c1
 ·
  exact(World.cell?_of_block (w:=w3) (a:=⟨w.heap.size+1+1,0,none⟩) ((Go.heap_alloc_old _ _ (by simp;omega)).trans (Go.heap_alloc_old _ _ (by show w.heap.size+1+1<_;omega)))).trans c2
 ·
  have:=heap_alloc_new w3 (.cells #[u] q);rw[hz] at this;exact cell1 ((Go.heap_alloc_old _ _ (by simp;omega)).trans this)
 ·
  have:=heap_alloc_new (w3.alloc (.cells #[u] q)) (.cells #[v] r);rw[World.size_alloc,hz] at this;exact this
def IsP (K:Law) (n room:Nat) (w0:World) (mb:Nat) (fs:List (Int×BF)) (nx:Int) (ws0:List Ev) (b:Bool) (o:Own) (w:World) (x:Ending) (w':World):Prop :=
 x=.returned (.tuple #[.bool b,.int .i64 0])/\∃ o' m' V',ChgX NoB o o' w w'/\m'.waits <:+ ws0/\SatE K n (fun _=>True) room w0 mb fs nx w' o' m' V'
theorem Ya1 (hK:Zbp K) {g:Nat} {G:BF->BF->BF} (hG:Zg9 K n g G) (eg:∀ args w,(callFunc g args).run Tryz.prog w=.ok (.enter g args) w) (h:SatE K n (fun _=>True) room w0 mb fs nx w o m V) {e0:Nat} {ka kb:Int} {F1 F2:BF} (h1:(ka,F1)∈fs) (h2:(kb,F2)∈fs) (he0:e0/2=0) {b:Bool} (hb:b=true↔G F1 F2=Zd7 e0) {ws0:List Ev} (hst:m.waits <:+ ws0) (hn:nx<=549755813888) (hr:fs.length*2^n+(2^n-1)<=room) :
 Calls Tryz.prog 119 #[.pointer (some ⟨mb,0,none⟩),.func (.func g) #[] #[],.int .i64 ka,.int .i64 kb,.int .i64 e0] w (IsP K n room w0 mb fs nx ws0 b o w):=by
 have hmf:∀ (fn:Fn) (first cap:Array Value) (w:World),(Instr.makeFunc fn first cap).run Tryz.prog w=.ok (.func fn first cap) w:=fun _ _ _ _=>rfl
 obtain⟨w5,hw5,hb5,hz5,c0,c1,c2,c3,c4⟩:=boxes5v w (.func (.func g) #[] #[]) (.int .i64 ka) (.int .i64 kb) (.int .i64 e0) (.bool false) 189 3 3 116 4;have HW5:Hid (_=w5):=Hd hw5.symm;have hw0:=h.chg.size;have hop:=Yag (room:=room) (w0:=w0) (mb:=mb) (ba:=w.heap.size+1) (bf:=w.heap.size) (bb:=w.heap.size+1+1) (bw:=w.heap.size+1+1+1) (bs:=w.heap.size+1+1+1+1) hK hG eg h1 h2 (by unfold C4;omega) he0 hb ws0 hn;obtain⟨s,hs⟩:∃ s,s=w.heap.size+1+1+1+1:=⟨_,rfl⟩
 have HL:Hid (Calls Tryz.prog 176 #[.pointer (some ⟨mb,0,none⟩),.func (.func 177) #[] #[.pointer (some ⟨w.heap.size+1,0,none⟩),.pointer (some ⟨w.heap.size,0,none⟩),.pointer (some ⟨w.heap.size+1+1,0,none⟩),.pointer (some ⟨w.heap.size+1+1+1,0,none⟩),.pointer (some ⟨w.heap.size+1+1+1+1,0,none⟩)]] w5 fun x w'=>x=.returned (.int .i64 0)/\w'.cell? ⟨w.heap.size+1+1+1+1,0,none⟩=some (.bool b)/\IsP K n room w0 mb fs nx ws0 b o w (.returned (.tuple #[.bool b,.int .i64 0])) w'):=Hd (by
  refine(Zwx (fun W W' hB hk=>⟨hB.1.keep fun c hc=>hk c (.inl hc),hB.2.imp fun z hz=>(hk _ (.inr rfl)).trans hz⟩) (fun W W' m V hq hk=>⟨(World.cell?_of_block (w:=W) (a:=⟨w.heap.size+1+1+1+1,0,none⟩) (hk _ (.inr rfl))).trans hq.1,hq.2⟩) (fun m d hm _=>hm) (fun c hc=>?_) Zrv hop (h.below hb5) ⟨⟨c1,c0,c2,c3⟩,false,c4⟩ (fun c hc=>?_) hst).mono ?_
  ·
   rcases hc with (rfl|rfl|rfl|rfl)|rfl<;>omega
  ·
   rcases hc with (rfl|rfl|rfl|rfl)|rfl<;>exact⟨by omega,h.lt.none (by omega)⟩
  ·
   rintro x w' ⟨er,rfl,o',m',V',hs',_,hc,⟨rfl,hq1,hq2⟩|⟨_,m0,⟨e7,⟨W,oo,VV,hs0⟩,h5⟩,h6⟩⟩
   ·
    refine⟨rfl,hq1,rfl,o',m',V',(ChgX.of_below hb5 o NoB).trans hc (fun k hk e=>?_),hq2,hs'⟩;rcases e with (rfl|rfl|rfl|rfl)|rfl<;>omega
   ·
    exfalso;have:=hs0.few (h6 e7);omega)
 clear hw5 hb5 hz5 c0 c1 c2 c3 c4 h hK hG hst hn hr h1 h2 hop hw0 hb he0;obtain⟨P,hP⟩:∃ P,P=IsP K n room w0 mb fs nx ws0 b o w:=⟨_,rfl⟩;rw[<- hP] at HL ⊢;clear hP;rw[<- hs] at HL;have HS:=Hd hs;clear hs
 go_enter Tryz.func119,Tryz.ntmps119
 go_upto_region 2 with fail;rw[HW5.out];rw[<- HS.out];go_wp2_with fail;refine HL.out.mono ?_;rintro x w' ⟨rfl,hc,hf⟩;have HF:=Hd hf;clear hf HL;cases b with
 | true =>
   go_wp2_with fail;exact HF.out
 | false =>
   go_wp2_with fail;exact HF.out
end
open Go.RowKit
structure ArgL (fs:List (Int×BF)) (w0 w:World) (o:Own) (a:Option Addr) (ks:List Int) (Fs:List BF):Prop where
 z:Za4 w a ks
 own:∀ x,a=some x->x.block<w.heap.size/\w0.heap.size<=x.block/\o x.block=none
 len:Fs.length=ks.length
 mem:∀ i (h:i<ks.length),(ks[i],Fs[i]'(by omega))∈fs
section
variable {K:Law} {n:Nat} {room:Nat} {w0 w:World} {mb:Nat} {fs:List (Int×BF)} {nx:Int} {o:Own} {m:ManD} {V:Nat->BF} {ws0:List Ev}
theorem Yar (hK:Zbp K) (h:SatE K n (fun _=>True) room w0 mb fs nx w o m V) {c:Nat} {a:Option Addr} {ks:List Int} {Fs:List BF} (hl:ArgL fs w0 w o a ks Fs) (hst:m.waits <:+ ws0) (hn:nx<=549755813888) (hr:fs.length*2^n+ks.length*(2^n-1)<=room) :
 Calls Tryz.prog 114 #[.pointer (some ⟨mb,0,none⟩),.slice a ks.length c] w (NewF K n room w0 mb fs nx ws0 (Zim orF (Zd7 1) Fs) o w):=by
 have HC:=Hd (Zwk (c:=c) hK (Yap hK) Zny h (e0:=1) rfl hl.z hl.own hl.len hl.mem hst hn hr);clear h hK hl hst hn hr;obtain⟨P,hP⟩:∃ P,P=NewF K n room w0 mb fs nx ws0 (Zim orF (Zd7 1) Fs) o w:=⟨_,rfl⟩;rw[<- hP] at HC ⊢;have HT:Hid (∀ x w',P x w'->∃ a b,x=.returned (.tuple #[.int .i64 a,.int .i64 b])):=Hd (by subst hP;rintro x w' ⟨rfl,_⟩;exact⟨_,_,rfl⟩);clear hP
 go_enter Tryz.func114,Tryz.ntmps114
 go_wp2_with fail;refine HC.out.mono ?_;intro x w' hd;obtain⟨a,b,rfl⟩:=HT.out x w' hd;have HD:=Hd hd;clear hd;go_wp2_with fail;exact HD.out
theorem Zw7 (hK:Zbp K) (h:SatE K n (fun _=>True) room w0 mb fs nx w o m V) {ka kb:Int} {F1 F2:BF} (h1:(ka,F1)∈fs) (h2:(kb,F2)∈fs) (hst:m.waits <:+ ws0) (hn:nx<=549755813888) (hr:fs.length*2^n+(2^n-1)<=room) :
 Calls Tryz.prog 113 #[.pointer (some ⟨mb,0,none⟩),.int .i64 ka,.int .i64 kb] w (NewF K n room w0 mb fs nx ws0 (Zns F1 F2) o w):=by
 have HC:=Hd (Zv6 hK (Zzr hK) Zpp h h1 h2 hst hn hr);clear h hK h1 h2 hst hn hr;obtain⟨P,hP⟩:∃ P,P=NewF K n room w0 mb fs nx ws0 (Zns F1 F2) o w:=⟨_,rfl⟩;rw[<- hP] at HC ⊢;have HT:Hid (∀ x w',P x w'->∃ a b,x=.returned (.tuple #[.int .i64 a,.int .i64 b])):=Hd (by subst hP;rintro x w' ⟨rfl,_⟩;exact⟨_,_,rfl⟩);clear hP
 go_enter Tryz.func113,Tryz.ntmps113
 go_wp2_with fail;refine HC.out.mono ?_;intro x w' hd;obtain⟨a,b,rfl⟩:=HT.out x w' hd;have HD:=Hd hd;clear hd;go_wp2_with fail;exact HD.out
theorem Zsy (hK:Zbp K) (h:SatE K n (fun _=>True) room w0 mb fs nx w o m V) {ka kb:Int} {F1 F2:BF} (h1:(ka,F1)∈fs) (h2:(kb,F2)∈fs) {b:Bool} (hb:b=true↔impF F1 F2=Zd7 0) (hst:m.waits <:+ ws0) (hn:nx<=549755813888) (hr:fs.length*2^n+(2^n-1)<=room) :
 Calls Tryz.prog 52 #[.pointer (some ⟨mb,0,none⟩),.int .i64 ka,.int .i64 kb] w (IsP K n room w0 mb fs nx ws0 b o w):=by
 have HC:=Hd (Ya1 hK (Zyb hK) Zru h (e0:=0) h1 h2 rfl hb hst hn hr);clear h hK h1 h2 hst hn hr hb;obtain⟨P,hP⟩:∃ P,P=IsP K n room w0 mb fs nx ws0 b o w:=⟨_,rfl⟩;rw[<- hP] at HC ⊢;have HT:Hid (∀ x w',P x w'->∃ (a:Bool) (b:Int),x=.returned (.tuple #[.bool a,.int .i64 b])):=Hd (by subst hP;rintro x w' ⟨rfl,_⟩;exact⟨_,_,rfl⟩);clear hP
 go_enter Tryz.func52,Tryz.ntmps52
 go_wp2_with fail;refine HC.out.mono ?_;intro x w' hd;obtain⟨a,b,rfl⟩:=HT.out x w' hd;have HD:=Hd hd;clear hd;go_wp2_with fail;exact HD.out
end
open Go.RowKit
end Go.Proofs.YtmofaapnkidioaaGreat

namespace Go.Proofs.YtmofaapnkidioaaGreat
open Go.RowKit
open Go.RowKit
end Go.Proofs.YtmofaapnkidioaaGreat

namespace Go.Proofs.YtmofaapnkidioaaGreat
open Go.RowKit
section
variable {d:Zag} {V:Nat->BF}
end
open Go.RowKit
theorem Zwp (F G:BF):impF F G=Zd7 0↔Zns F G=fun _=>false:=by
 constructor
 ·
  intro h;funext ρ;have:=congrFun h ρ
  show iteB (F ρ) (!G ρ) false=false
  have h2:iteB (F ρ) (G ρ) true=true:=this;revert h2;cases F ρ<;>cases G ρ<;>simp[iteB]
 ·
  intro h;funext ρ;have h2:iteB (F ρ) (!G ρ) false=false:=congrFun h ρ
  show iteB (F ρ) (G ρ) true=true
  revert h2;cases F ρ<;>cases G ρ<;>simp[iteB]
section
variable {n:Nat} {F G:BF} {x y:Value} {w:World}
end
open Go.RowKit
theorem Zum {op:Int} (h:0<=(Zbt op).1):1<=op/\op<=10/\(Zbt op).2<=64:=by
 unfold Zbt at h ⊢;split
 ·
  rename_i h1;exact⟨by omega,by omega,by simp⟩
 ·
  split
  ·
   rename_i h1;exact⟨by omega,by omega,by simp⟩
  ·
   split
   ·
    rename_i h1;exact⟨by omega,by omega,by simp⟩
   ·
    split
    ·
     rename_i h1;exact⟨by omega,by omega,by simp⟩
    ·
     split
     ·
      rename_i h1;exact⟨by omega,by omega,by simp⟩
     ·
      exfalso;revert h;simp_all
theorem Zlt (f:Nat->Bool) (i:Nat):(List.range (i+1)).map f=(List.range i).map f++[f i]:=by simp[List.range_succ]
theorem Zhb (l:List Bool) (b:Bool):Zbz (l++[b])=Zbz l++[.bool b]:=by simp[Zbz]
theorem tmod2 (c:Nat):((c:Int).tmod 2 == 1)=decide (c%2=1):=by
 have e1:Int.tmod (c:Int) 2=((c%2:Nat):Int):=by rw[Int.tmod_eq_emod_of_nonneg (by omega)];rfl
 rw[e1]
 by_cases h:c%2=1
 ·
  rw[h];rfl
 ·
  have:((c%2:Nat):Int)≠1:=by omega
  rw[beq_eq_false_iff_ne.2 this,decide_eq_false h]
theorem Zp2 (a b:Nat):(((a:Nat):Int) == (b:Int))=decide (a=b):=by
 by_cases h:a=b
 ·
  subst h;simp
 ·
  have:(a:Int)≠b:=by omega
  rw[beq_eq_false_iff_ne.2 this,decide_eq_false h]
theorem Zkv (ls:List Bool) (al:Option Addr) (cl:Nat):∀ (e:ExT) (x:Value) (w:World),Zo8 e->Zaq w e x->Zfz w al ls ->
 Calls Tryz.prog 128 #[x,.slice al ls.length cl] w fun y w'=>y=.returned (.bool (fnT e (Zc7 ls)))/\Below w.heap.size w w'
 | .nil,x,w,hv,h,_=>by unfold Zaq at h;exact h.elim
 | .mk op v n kid,x,w,hval,h,hls=>by
   unfold Zaq at h;obtain⟨a,c,rfl,h2,h3,h4,h5⟩:=h;obtain⟨v1,v2,v3,v4,v5,v6⟩:=hval;obtain⟨k1,k2,k3⟩:=Zum v1;have hn64:n<=64:=by omega
   have H5:=Hd h5;have H6:=Hd v6;have HLS:=Hd hls;have hll:=hls.len;have HE:Hid (fnT (ExT.mk op v n kid) (Zc7 ls)=if op=3 then Zc7 ls v.toNat else opB op n fun i=>fnT (kid i) (Zc7 ls)):=Hd rfl;have IH:Hid (∀ (i:Nat) (x:Value) (W:World),i<n->Zaq W (kid i) x->Zfz W al ls->Calls Tryz.prog 128 #[x,.slice al ls.length cl] W fun y w'=>y=.returned (.bool (fnT (kid i) (Zc7 ls)))/\Below W.heap.size W w') :=
    Hd fun i x W hi h1 h2=>Zkv ls al cl (kid i) x W (H6.out i hi) h1 h2
   obtain⟨B,hB⟩:∃ B,B=fnT (ExT.mk op v n kid) (Zc7 ls):=⟨_,rfl⟩;obtain⟨f,hf⟩:∃ f:Nat->Bool,f=fun i=>fnT (kid i) (Zc7 ls):=⟨_,rfl⟩
   have HFI:Hid (∀ i,fnT (kid i) (Zc7 ls)=f i):=Hd fun i=>by rw[hf]
   rw[<- hB] at HE ⊢;rw[<- hf] at HE;have hl2:op=8\/op=9->n=2:=by rintro(rfl|rfl)<;>(simp[Zbt] at v4 v5;omega)
   have hl3:op=10->n=3:=by rintro rfl;simp[Zbt] at v4 v5;omega
   have hl4:op=4->n=1:=by rintro rfl;simp[Zbt] at v4 v5;omega
   obtain⟨w1,hw1⟩:∃ w1,w1=w.alloc (.cells #[.int .i64 op,.int .i64 v,.slice a n c] 86):=⟨_,rfl⟩;have HW1:Hid (_=w1):=Hd hw1.symm;have HB1:Hid (Below w.heap.size w w1):=by rw[hw1];exact Hd (Zad _ _)
   have hblk:w1.heap[w.heap.size]?=some (.cells #[.int .i64 op,.int .i64 v,.slice a n c] 86 (0,0)):=by rw[hw1];exact heap_alloc_new _ _
   have d0:w1.cell? ⟨w.heap.size,0,none⟩=some (.int .i64 op):=by rw[cell_of_row _ _ 0 _ _ _ hblk];rfl
   have d1:w1.cell? ⟨w.heap.size,1,none⟩=some (.int .i64 v):=by rw[cell_of_row _ _ 1 _ _ _ hblk];rfl
   have d2:w1.cell? ⟨w.heap.size,2,none⟩=some (.slice a n c):=by rw[cell_of_row _ _ 2 _ _ _ hblk];rfl
   unfold okI at h2 h3;obtain⟨w2,hw2⟩:∃ w2,w2=w1.alloc (.cells #[] 4):=⟨_,rfl⟩;have HW2:Hid (_=w2):=Hd hw2.symm;have HB2:Hid (Below w1.heap.size w1 w2):=by rw[hw2];exact Hd (Zad _ _)
   have HOWN:Hid (OwnB w2 w1.heap.size (.slice (some ⟨w1.heap.size,0,none⟩) 0 0) []):=by rw[hw2];exact Hd (Zfr _ _ _ (Nat.le_refl _))
   have hs1:w1.heap.size=w.heap.size+1:=by rw[hw1];simp
   rw[hs1] at HOWN;clear h5 hw1 hw2 hblk hf hB v1 v4 v5 v6 hls
   go_enter Tryz.func128,Tryz.ntmps128
   go_upto_region 1 with fail;rw[HW1.out];go_upto_region 3 with fail;rw[HW2.out];have hs2:w1.heap.size<=w2.heap.size:=HB2.out.size;have d0':=(HB2.out.cell (p:=⟨w.heap.size,0,none⟩) (Zaa d0)).trans d0;have d1':=(HB2.out.cell (p:=⟨w.heap.size,1,none⟩) (Zaa d1)).trans d1;have d2':=(HB2.out.cell (p:=⟨w.heap.size,2,none⟩) (Zaa d2)).trans d2;go_wp2_with fail
   go_loopw [5,6,7,8] (fun s5 s6 s7 s8 wr=>∃ i k:Nat,i<=n/\k<=i/\s5=.int .i64 k/\s7=.int .i64 i/\Hid (k=cntT i f)/\Below w1.heap.size w1 wr/\OwnB wr w1.heap.size s6 ((List.range i).map f)/\w1.heap.size<=wr.heap.size) (fun _ _ s7 _ _=>n-(intOf s7).toNat)
   case atStart=>exact⟨0,0,Nat.zero_le _,Nat.le_refl _,rfl,rfl,Hd rfl,HB2.out,by rw[hs1];exact HOWN.out,hs2⟩
   case round =>
    obtain⟨i,k,hi,hki,rfl,rfl,HK,hbel,hown,hsz⟩:=hrel;have e0:=(hbel.cell (p:=⟨w.heap.size,0,none⟩) (Zaa d0)).trans d0;have e1:=(hbel.cell (p:=⟨w.heap.size,1,none⟩) (Zaa d1)).trans d1;have e2:=(hbel.cell (p:=⟨w.heap.size,2,none⟩) (Zaa d2)).trans d2;have HBEL:=Hd hbel;have HOW:=Hd hown;clear hbel d0' d1' d2'
    by_cases hlt:i<n
    ·
     clear hown;obtain⟨b,off,x0,x1,x2,rfl,c0,c1,c2,hx⟩:=H5.out i hlt;have hb0:=HB1.out.trans (HBEL.out.mono HB1.out.size);have q0:=(hb0.cell (p:=⟨b,off+i*3,none⟩) (Zaa c0)).trans c0;have q1:=(hb0.cell (p:=⟨b,off+i*3+1,none⟩) (Zaa c1)).trans c1;have q2:=(hb0.cell (p:=⟨b,off+i*3+2,none⟩) (Zaa c2)).trans c2;have HX:=Hd (hx.below hb0);have HL2:=Hd (HLS.out.below hb0);have hiz:(i:Int)<n:=by omega
     have HK1:Hid (∀ y,f i=y->k+(if y then 1 else 0)=cntT (i+1) f):=Hd fun y hy=>by rw[<- hy,HK.out];rfl
     clear c0 c1 c2 hx hb0;go_wp2_with fail;refine(IH.out i _ _ (by omega) HX.out HL2.out).mono ?_;rintro y w3 ⟨rfl,hb3⟩;have HB3:=Hd hb3;clear hb3;go_upto_region 7 with fail;rw[HFI.out];obtain⟨y,hy⟩:∃ y,f i=y:=⟨_,rfl⟩;rw[hy];have HKY:=Hd (HK1.out y hy);have HOW3:=Hd (HOW.out.below HB3.out);have hsz3:w1.heap.size<=w3.heap.size:=Nat.le_trans hsz HB3.out.size;have HBEL3:=Hd (HBEL.out.trans (HB3.out.mono HBEL.out.size));have HYY:Hid (Zbz ((List.range (i+1)).map f)=Zbz ((List.range i).map f)++[.bool y]):=Hd (by rw[Zlt,Zhb,hy]);clear HK1 hy q0 q1 q2 e0 e1 e2;go_upto_region 8 with (at_builtin;refine Zcx Zhu _ rfl _ _ rfl w1.heap.size _ (Zbz ((List.range i).map f)) _ rfl rfl rfl rfl rfl (by exact HOW3.out) (by simp[Zbz];omega) hsz3 ?_;intro v4 w4 hown4 q1 q2 q3 q4 hk4)
     have HB4:=Hd (Zhq HBEL3.out HOW3.out q1 q2 q3 q4 hk4 hsz3);have HOW4:=Hd hown4;have hsz4:w1.heap.size<=w4.heap.size:=by omega
     clear hown4 q1 q2 q3 q4 hk4;cases y with
     | true =>
       go_wp2_with fail;go_roundw
       case rel=>exact⟨i+1,k+1,by omega,by omega,by go_num,by go_num,Hd HKY.out,HB4.out,by unfold OwnB;rw[HYY.out];exact HOW4.out,hsz4⟩
       case measure=>simp[intOf];omega
     | false =>
       go_wp2_with fail;go_roundw
       case rel=>exact⟨i+1,k,by omega,by omega,by go_num,by go_num,Hd HKY.out,HB4.out,by unfold OwnB;rw[HYY.out];exact HOW4.out,hsz4⟩
       case measure=>simp[intOf];omega
    ·
     have he:i=n:=by omega
     subst he;have hiz:¬ (i:Int)<i:=by omega
     have HF:Hid (∀ b:Bool,b=B->Ending.returned (.bool b)=.returned (.bool B)/\Below w.heap.size w wr):=Hd fun b hb=>⟨by rw[hb],HB1.out.trans (HBEL.out.mono HB1.out.size)⟩
     have hkids:0<i->∃ g cap,u6=.slice (some ⟨g,0,none⟩) i cap/\∀ j,j<i->wr.cell? ⟨g,j,none⟩=some (.bool (f j)):=by
      intro hp;obtain⟨g,cap,e,_⟩:=hown.shape (by simp[Zbz];omega);have e':u6=.slice (some ⟨g,0,none⟩) i cap:=by rw[e];simp[Zbz]
      refine⟨g,cap,e',fun j hj=>?_⟩;rw[e'] at hown;have:=hown.cellB j (by simp;omega);rw[this];simp[List.getD,hj]
     clear hown;rcases(show op=1\/op=2\/op=3\/op=4\/op=5\/op=6\/op=7\/op=8\/op=9\/op=10 by omega) with rfl|rfl|rfl|rfl|rfl|rfl|rfl|rfl|rfl|rfl
     ·
      go_wp2_with fail;go_ret;exact HF.out _ (by rw[HE.out];rfl)
     ·
      go_wp2_with fail;go_ret;exact HF.out _ (by rw[HE.out];rfl)
     ·
      obtain⟨v5,v6⟩:=v2 rfl;obtain⟨u,rfl⟩:∃ u:Nat,v=(u:Int):=⟨v.toNat,by omega⟩;have HEV:Hid (B=Zc7 ls u):=Hd (by rw[HE.out];rfl)
      by_cases hu:u<ls.length
      ·
       obtain⟨bl,ol,rfl,cl0⟩:=(HLS.out.below (HB1.out.trans (HBEL.out.mono HB1.out.size))).cells u hu;have huz:(u:Int)<ls.length:=by omega
       have HEV2:Hid (B=ls.getD u false):=HEV;obtain⟨yy,hyy⟩:∃ yy,yy=ls.getD u false:=⟨_,rfl⟩;rw[<- hyy] at cl0 HEV2;clear hyy;go_wp2_with fail;go_ret;exact HF.out _ HEV2.out.symm
      ·
       have huz:¬ (u:Int)<ls.length:=by omega
       have HEV2:Hid (B=false):=Hd (by rw[HEV.out];unfold Zc7;simp[List.getD,List.getElem?_eq_none (show ls.length<=u by omega)]);go_wp2_with fail;go_ret;exact HF.out _ HEV2.out.symm
     ·
      have HV:Hid (((k:Int) == 0)=B):=Hd (by rw[HE.out,HK.out];exact Zp2 _ 0);go_wp2_with fail;go_ret;exact HF.out _ HV.out
     ·
      have HV:Hid (((k:Int) == (i:Int))=B):=Hd (by rw[HE.out,HK.out];exact Zp2 _ i);go_wp2_with fail;go_ret;exact HF.out _ HV.out
     ·
      have HV:Hid (decide (0<k)=B):=Hd (by
       rw[HE.out,HK.out];rfl)
      go_wp2_with fail;go_ret;exact HF.out _ HV.out
     ·
      have HV:Hid (((k:Int).tmod 2 == 1)=B):=Hd (by rw[HE.out,HK.out];exact tmod2 _);go_wp2_with fail;go_ret;exact HF.out _ HV.out
     ·
      have:=hl2 (.inl rfl);subst this;obtain⟨g,cap,rfl,hc⟩:=hkids (by omega);have c0:=hc 0 (by omega);have c1:=hc 1 (by omega);have HV:Hid ((!(f 0)||f 1)=B):=Hd (by rw[HE.out];rfl);obtain⟨y0,hy0⟩:∃ y,y=f 0:=⟨_,rfl⟩;obtain⟨y1,hy1⟩:∃ y,y=f 1:=⟨_,rfl⟩;rw[<- hy0] at c0 HV;rw[<- hy1] at c1 HV;clear hy0 hy1 hc hkids;cases y0 with
      | true =>
        go_wp2_with fail;go_ret;exact HF.out _ HV.out
      | false =>
        go_wp2_with fail;go_ret;exact HF.out _ HV.out
     ·
      have HV:Hid (((k:Int) != 1)=B):=Hd (by
       rw[HE.out,HK.out]
       show (!((cntT i f:Int) == ((1:Nat):Int)))=decide (cntT i f≠1)
       rw[Zp2]
       by_cases h:cntT i f=1<;>simp[h])
      go_wp2_with fail;go_ret;exact HF.out _ HV.out
     ·
      have:=hl3 rfl;subst this;obtain⟨g,cap,rfl,hc⟩:=hkids (by omega);have c0:=hc 0 (by omega);have c1:=hc 1 (by omega);have c2:=hc 2 (by omega);have HV:Hid (iteB (f 0) (f 1) (f 2)=B):=Hd (by rw[HE.out];rfl);obtain⟨y0,hy0⟩:∃ y,y=f 0:=⟨_,rfl⟩;obtain⟨y1,hy1⟩:∃ y,y=f 1:=⟨_,rfl⟩;obtain⟨y2,hy2⟩:∃ y,y=f 2:=⟨_,rfl⟩;rw[<- hy0] at c0 HV;rw[<- hy1] at c1 HV;rw[<- hy2] at c2 HV;clear hy0 hy1 hy2 hc hkids;cases y0 with
      | true =>
        go_wp2_with fail;go_ret;exact HF.out _ HV.out
      | false =>
        go_wp2_with fail;go_ret;exact HF.out _ HV.out
open Go.RowKit
section
variable {P:Program} {ops:Array Oper} {S:World->Prop} {Q:Exit->Act->World->Prop} {last:Bool}
theorem Zsj {o:Oper} {r:List (Option Oper×Bool)} {a:Act} {w w':World} {v:Value} (hw:Region.wanted o (yielded ops a.tmps)=true)
 (he:(execOp a.eval o).run P w=.ok (.value v) w') (hS:S w') (h:Zcy P ops Q S last r (a.put o.dst v) w'):Zcy P ops Q S last ((some o,true)::r) a w:=by
 unfold Zcy;simp only[hw,if_true,Oper.wp,he,Oper.upon];exact⟨.inr hS,h⟩
theorem Zsi {o:Oper} {r:List (Option Oper×Bool)} {a:Act} {w:World} {f:FuncId} {args:Array Value} {R:Value->World->Prop} (hw:Region.wanted o (yielded ops a.tmps)=true)
 (he:(execOp a.eval o).run P w=.ok (.enter f args) w) (hc:Calls P f args w fun e w'=>∃ v,e=.returned v/\S w'/\R v w')
 (h:∀ v w',S w'->R v w'->Zcy P ops Q S last r (a.put o.dst v) w'):Zcy P ops Q S last ((some o,true)::r) a w:=by
 unfold Zcy;simp only[hw,if_true,Oper.wp,he,Oper.upon];exact hc.mono fun e w' ⟨v,h1,h2,h3⟩=>by subst h1;exact⟨.inr h2,h v w' h2 h3⟩
end
theorem Zgc (mb:Nat) (b:Bool) (w:World):Calls Tryz.prog 140 #[.pointer (some ⟨mb,0,none⟩),.bool b] w fun x w'=>x=.returned (.int .i64 (if b then 1 else 0))/\w=w':=by
 cases b with
 | true =>
   go_enter Tryz.func140,Tryz.ntmps140
   go_wp2_with fail;go_ret;exact⟨rfl,rfl⟩
 | false =>
   go_enter Tryz.func140,Tryz.ntmps140
   go_wp2_with fail;go_ret;exact⟨rfl,rfl⟩
theorem Zzj {α:Type} {l:List α} (h:l.length=2):∃ a b,l=[a,b]:=by
 match l,h with
 | [a,b],_=>exact⟨a,b,rfl⟩
theorem Zuo {α:Type} {l:List α} (h:l.length=3):∃ a b c,l=[a,b,c]:=by
 match l,h with
 | [a,b,c],_=>exact⟨a,b,c,rfl⟩
theorem Zq3 {f:Nat->Nat} (h:∀ i,1<=f i):∀ k,k<=sumN k f
 | 0=>Nat.zero_le _
 | k+1=>by
   have:=Zq3 h k;have:=h k
   show k+1<=sumN k f+f k
   omega
section
variable {K:Law} {n:Nat} {Od:List Nat->Prop} {room:Nat} {w0 w w' w'':World} {mb:Nat} {fs fs':List (Int×BF)} {nx nx':Int} {o o':Own} {m m':ManD} {V V':Nat->BF}
theorem Goes.refl {M:Nat} (h:SatE K n Od room w0 mb fs nx w o m V) (hw:m.waits=[]/\m.d.pool.many<=M):Goes K n Od room w0 mb fs nx (NoW M) o w w:=⟨o,m,V,ChgX.of_below (Below.refl _ _) o NoB,hw,h⟩
theorem Goes.after {Wt:List Ev->Int->Nat->Prop} (hc:ChgX NoB o o' w w') (g:Goes K n Od room w0 mb fs nx Wt o' w' w''):Goes K n Od room w0 mb fs nx Wt o w w'':=by
 obtain⟨o2,m2,V2,h1,h2,h3⟩:=g;exact⟨o2,m2,V2,hc.trans h1 (fun _ _ e=>e),h2,h3⟩
theorem Goes.cell {Wt:List Ev->Int->Nat->Prop} (g:Goes K n Od room w0 mb fs nx Wt o w w') {p:Addr} {v:Value} (hc:w.cell? p=some v) (hb:o p.block=none):w'.cell? p=some v:=by
 obtain⟨o2,m2,V2,h1,h2,h3⟩:=g;exact h1.cell hc hb (fun e=>e)
theorem Goes.below0 {Wt:List Ev->Int->Nat->Prop} (g:Goes K n Od room w0 mb fs nx Wt o w w'):Below w0.heap.size w0 w':=by
 obtain⟨o2,m2,V2,h1,h2,h3⟩:=g;exact h3.chg.below0
structure BuiT (K:Law) (n:Nat) (Od:List Nat->Prop) (room:Nat) (w0:World) (mb:Nat) (fs:List (Int×BF)) (nx:Int) (M:Nat) (o:Own) (w:World) (vl:Value) (ks:List Int) (W:World) (o':Own) (m':ManD) (V':Nat->BF):Prop where
 sat:SatE K n Od room w0 mb fs nx W o' m' V'
 waits:m'.waits=[]/\m'.d.pool.many<=M
 chg:ChgX NoB o o' w W
 l:LawL W o' w.heap.size vl ks
def BuiS (K:Law) (n:Nat) (Od:List Nat->Prop) (room:Nat) (w0:World) (mb:Nat) (fs:List (Int×BF)) (nx:Int) (M:Nat) (o:Own) (w:World) (vl:Value) (ks:List Int) (W:World):Prop:=∃ o' m' V',BuiT K n Od room w0 mb fs nx M o w vl ks W o' m' V'
section
variable {M:Nat} {vl vl':Value} {ks:List Int} {W W':World}
theorem BuiT.go (h:BuiT K n Od room w0 mb fs nx M o w vl ks W o' m' V') {M':Nat} (g:Goes K n Od room w0 mb fs' nx' (NoW M') o' W W'):BuiS K n Od room w0 mb fs' nx' M' o w vl ks W':=by
 obtain⟨o2,m2,V2,h1,h2,h3⟩:=g;exact⟨o2,m2,V2,h3,h2,h.chg.trans h1 (fun _ _ e=>e),h.l.chg h1⟩
theorem BuiT.refl (h:BuiT K n Od room w0 mb fs nx M o w vl ks W o' m' V'):Goes K n Od room w0 mb fs nx (NoW M) o' W W:=Goes.refl h.sat h.waits
theorem BuiS.below (h:BuiS K n Od room w0 mb fs nx M o w vl ks W) (hb:Below W.heap.size W W'):BuiS K n Od room w0 mb fs nx M o w vl ks W':=by
 obtain⟨o',m',V',h⟩:=h;exact h.go (h.refl.below hb)
theorem BuiS.goes (h:BuiS K n Od room w0 mb fs nx M o w vl ks W):Goes K n Od room w0 mb fs nx (NoW M) o w W:=by
 obtain⟨o',m',V',h⟩:=h;exact⟨o',m',V',h.chg,h.waits,h.sat⟩
theorem BuiS.app {k:Int} (h:BuiT K n Od room w0 mb fs nx M o w vl ks W o' m' V') (hown:OwnC 3 W' w.heap.size vl' (Zbh ks++[.int .i64 k])) (e1:W'.os=W.os) (e2:W'.tape=W.tape) (e3:W'.output=W.output) (e4:W.heap.size<=W'.heap.size) (hk:Zdv vl vl' W W') (hw0:w0.heap.size<=w.heap.size) :
 BuiS K n Od room w0 mb fs nx M o w vl' (ks++[k]) W':=by
 have hw:=Zra e1 e2 e3 e4 hk;exact⟨o',m',V',h.sat.other hw (fun k _ hk=>⟨by have:=(h.l.own.lt k hk).1;omega,h.l.no k hk⟩),h.waits,h.chg.trans (ChgX.of_wr (C:=fun k=>w.heap.size<=k) hw o' (fun k _ hk=>(h.l.own.lt k hk).1)) (fun k hk e=>by omega),h.l.app h.sat.lt hown hk⟩
theorem BuiS.cells (h:BuiS K n Od room w0 mb fs nx M o w vl ks W) (hp:0<ks.length):∃ g c,vl=.slice (some ⟨g,0,none⟩) ks.length c/\∀ j,j<ks.length->W.cell? ⟨g,j,none⟩=some (.int .i64 (at0 ks j)):=by
 obtain⟨o',m',V',h⟩:=h;obtain⟨g,c,e,_⟩:=h.l.own.shape (by simpa [Zbh] using hp);have e':vl=.slice (some ⟨g,0,none⟩) ks.length c:=by rw[e];simp[Zbh]
 refine⟨g,c,e',fun j hj=>?_⟩;have ho:=h.l.own;rw[e'] at ho;rw[ho.cell j (by simpa [Zbh] using hj)];simp[Zbh,Zcb hj,hj]
theorem BuiS.cellsN (h:BuiS K n Od room w0 mb fs nx M o w vl ks W) {i:Nat} (hl:ks.length=i) (hp:0<i):∃ g c,vl=.slice (some ⟨g,0,none⟩) i c/\∀ j,j<i->W.cell? ⟨g,j,none⟩=some (.int .i64 (at0 ks j)):=by
 subst hl;exact h.cells hp
end
def Zhe (n s:Nat):Nat:=s*2^n-(2^n-1)
theorem Zhs (n:Nat) {s:Nat} (h:1<=s):Zhe n s+(2^n-1)=s*2^n:=by
 have:=Nat.mul_le_mul_right (2^n) h;unfold Zhe;omega
def Zes (n:Nat) (kid:Nat->ExT) (i:Nat):Nat:=sumN i fun j=>Zhe n (kid j).size
theorem Zno (n:Nat) (kid:Nat->ExT):∀ i,Zes n kid i+i*(2^n-1)=(sumN i fun i=>(kid i).size)*2^n
 | 0=>by simp[Zes,sumN]
 | i+1=>by
   have h1:=Zno n kid i;have h2:=Zhs n (kid i).size_pos
   show Zes n kid i+Zhe n (kid i).size+(i+1)*(2^n-1)=((sumN i fun i=>(kid i).size)+(kid i).size)*2^n
   rw[Nat.add_mul,Nat.add_mul];omega
structure BCtx (K:Law) (n:Nat) (Od:List Nat->Prop) (room:Nat) (w0:World) (mb:Nat) (fs:List (Int×BF)) (nx:Int) (M:Nat) (w w1:World) (o:Own) (m:ManD) (V:Nat->BF) (op v:Int) (nk:Nat) (kid:Nat->ExT) (a:Option Addr) (c:Nat) (E:ExT) (Q:Ending->World->Prop):Prop where
 HKK:Hid (Zbp K)
 H5:Hid (∀ k,k<nk->∃ b off x0 x1 x2,a=some ⟨b,off,none⟩/\w0.cell? ⟨b,off+k*3,none⟩=some x0/\w0.cell? ⟨b,off+k*3+1,none⟩=some x1/\w0.cell? ⟨b,off+k*3+2,none⟩=some x2/\Zaq w0 (kid k) (.agg #[x0,x1,x2]))
 HKS:Hid (∀ i,i<nk->(sumN i fun i=>(kid i).size)+(kid i).size+1<=E.size)
 HSZ:Hid (E.size=1+sumN nk fun i=>(kid i).size)
 HPOS:Hid (∀ k,k<=sumN k fun i=>(kid i).size)
 IH:Hid (∀ (i:Nat) (x:Value) (fs':List (Int×BF)) (nx':Int) (W:World) (o':Own) (m':ManD) (V':Nat->BF) (M':Nat),i<nk->SatE K n Od room w0 mb fs' nx' W o' m' V'->m'.waits=[]/\m'.d.pool.many<=M'->B2 fs'->Zaq w0 (kid i) x->nx'+3*(kid i).size<549755813000->M'+(kid i).size*2^n<=room ->
  Calls Tryz.prog 70 #[.pointer (some ⟨mb,0,none⟩),x] W fun y w'=>∃ k:Int,y=.returned (.tuple #[.int .i64 k,.bool true])/\k+3<=nx'+3*(kid i).size/\Goes K n Od room w0 mb (fs'++[(k,fnT (kid i))]) (k+1) (NoW (M'+Zhe n (kid i).size)) o' W w')
 HW1:Hid (w.alloc (.cells #[.int .i64 op,.int .i64 v,.slice a nk c] 86)=w1)
 HG1:Hid (Goes K n Od room w0 mb fs nx (NoW M) o w1 w1)
 HSAT1:Hid (SatE K n Od room w0 mb fs nx w1 o m V)
 HWT:Hid (m.waits=[]/\m.d.pool.many<=M)
 HB2:Hid (B2 fs)
 HQ:Hid (∀ (k:Int) F W M',F=fnT E->k+3<=nx+3*E.size->M'<=M+Zhe n E.size->Goes K n Od room w0 mb (fs++[(k,F)]) (k+1) (NoW M') o w1 W->Q (.returned (.tuple #[.int .i64 k,.bool true])) W)
 HMR:Hid (∀ i,i<nk->M+(sumN i fun i=>(kid i).size)*2^n+(kid i).size*2^n+2^n<=room)
 HCK:Hid (∀ i,Zes n kid i+i*(2^n-1)=(sumN i fun i=>(kid i).size)*2^n)
 HCI:Hid (∀ i,Zhe n (kid i).size+(2^n-1)=(kid i).size*2^n)
 HEP:Hid (E.size*2^n=2^n+(sumN nk fun i=>(kid i).size)*2^n/\Zhe n E.size+(2^n-1)=E.size*2^n)
 HME:Hid (M+E.size*2^n<=room)
 hn64:nk<=64
 hnx:nx+3*E.size<549755813000
 hE1:1<=E.size
 hs1:w1.heap.size=w.heap.size+1
 d0:w1.cell? ⟨w.heap.size,0,none⟩=some (.int .i64 op)
 d1:w1.cell? ⟨w.heap.size,1,none⟩=some (.int .i64 v)
 d2:w1.cell? ⟨w.heap.size,2,none⟩=some (.slice a nk c)
 on:o w.heap.size=none
 hw0:w0.heap.size<=w1.heap.size
 hp2:0<2^n
 h2 : -9223372036854775808<=op/\op<=9223372036854775807
 h3 : -9223372036854775808<=v/\v<=9223372036854775807
theorem Zrm {w1:World} {op v:Int} {nk:Nat} {kid:Nat->ExT} {a:Option Addr} {c:Nat} {E:ExT} {Q:Ending->World->Prop} {M:Nat} (hctx:BCtx K n Od room w0 mb fs nx M w w1 o m V op v nk kid a c E Q) (h1:op=1) (hF:fnT E=fun _=>true) :
 Calls Tryz.prog 70 #[.pointer (some ⟨mb,0,none⟩),.agg #[.int .i64 op,.int .i64 v,.slice a nk c]] w Q:=by
 obtain⟨HKK,H5,HKS,HSZ,HPOS,IH,HW1,HG1,HSAT1,HWT,HB2,HQ,HMR,HCK,HCI,HEP,HME,hn64,hnx,hE1,hs1,d0,d1,d2,on,hw0,hp2,h2,h3⟩:=hctx;subst h1;have HCN:=Hd (Zgc mb true w1);have HCP:=Hd (Zl6 HKK.out HG1.out (by omega) (k:=1) (F:=fun _=>true) HB2.out.one);have HFF:Hid ((fun _=>true)=fnT E):=Hd hF.symm;have HCE:Hid (M<=M+Zhe n E.size):=Hd (Nat.le_add_right _ _);clear IH
 go_enter Tryz.func70,Tryz.ntmps70
 go_upto_region 1 with fail;rw[HW1.out];go_wp2_with fail;refine HCN.out.mono ?_;rintro y w' ⟨rfl,rfl⟩;go_wp2_with fail;refine HCP.out.mono ?_;rintro y w2 ⟨rfl,g⟩;have HF:=Hd (HQ.out nx _ w2 _ HFF.out (by omega) HCE.out g);clear g;go_wp2_with fail;exact HF.out
theorem Zpj {w1:World} {op v:Int} {nk:Nat} {kid:Nat->ExT} {a:Option Addr} {c:Nat} {E:ExT} {Q:Ending->World->Prop} {M:Nat} (hctx:BCtx K n Od room w0 mb fs nx M w w1 o m V op v nk kid a c E Q) (h1:op=2) (hF:fnT E=fun _=>false) :
 Calls Tryz.prog 70 #[.pointer (some ⟨mb,0,none⟩),.agg #[.int .i64 op,.int .i64 v,.slice a nk c]] w Q:=by
 obtain⟨HKK,H5,HKS,HSZ,HPOS,IH,HW1,HG1,HSAT1,HWT,HB2,HQ,HMR,HCK,HCI,HEP,HME,hn64,hnx,hE1,hs1,d0,d1,d2,on,hw0,hp2,h2,h3⟩:=hctx;subst h1;have HCN:=Hd (Zgc mb false w1);have HCP:=Hd (Zl6 HKK.out HG1.out (by omega) (k:=0) (F:=fun _=>false) HB2.out.zero);have HFF:Hid ((fun _=>false)=fnT E):=Hd hF.symm;have HCE:Hid (M<=M+Zhe n E.size):=Hd (Nat.le_add_right _ _);clear IH
 go_enter Tryz.func70,Tryz.ntmps70
 go_upto_region 1 with fail;rw[HW1.out];go_wp2_with fail;refine HCN.out.mono ?_;rintro y w' ⟨rfl,rfl⟩;go_wp2_with fail;refine HCP.out.mono ?_;rintro y w2 ⟨rfl,g⟩;have HF:=Hd (HQ.out nx _ w2 _ HFF.out (by omega) HCE.out g);clear g;go_wp2_with fail;exact HF.out
theorem Ztn {w1:World} {op v:Int} {nk:Nat} {kid:Nat->ExT} {a:Option Addr} {c:Nat} {E:ExT} {Q:Ending->World->Prop} {M:Nat} (hctx:BCtx K n Od room w0 mb fs nx M w w1 o m V op v nk kid a c E Q) {u:Nat} (hu:u<n) (h1:op=3) (hvu:v=u) (hF:fnT E=varF u) :
 Calls Tryz.prog 70 #[.pointer (some ⟨mb,0,none⟩),.agg #[.int .i64 op,.int .i64 v,.slice a nk c]] w Q:=by
 obtain⟨HKK,H5,HKS,HSZ,HPOS,IH,HW1,HG1,HSAT1,HWT,HB2,HQ,HMR,HCK,HCI,HEP,HME,hn64,hnx,hE1,hs1,d0,d1,d2,on,hw0,hp2,h2,h3⟩:=hctx;subst hvu;subst h1;have HCP:=Hd (Yax HKK.out HG1.out (by omega) (by have:=HEP.out;have:=HME.out;omega) hu);have HFF:Hid (varF u=fnT E):=Hd hF.symm;have HCE:Hid (M+1<=M+Zhe n E.size):=Hd (by have:=HEP.out;omega);clear IH
 go_enter Tryz.func70,Tryz.ntmps70
 go_upto_region 1 with fail;rw[HW1.out];go_wp2_with fail;refine HCP.out.mono ?_;rintro y w2 ⟨rfl,g⟩;have HF:=Hd (HQ.out nx _ w2 _ HFF.out (by omega) HCE.out g);clear g;go_wp2_with fail;exact HF.out
end
open Go.RowKit
section
variable {K:Law} {n:Nat} {Od:List Nat->Prop} {room:Nat} {w0 w w' w'':World} {mb:Nat} {fs fs':List (Int×BF)} {nx nx':Int} {o o':Own} {m m':ManD} {V V':Nat->BF}
theorem Ztj {w1:World} {op v:Int} {nk:Nat} {kid:Nat->ExT} {a:Option Addr} {c:Nat} {E:ExT} {Q:Ending->World->Prop} {M:Nat} (hctx:BCtx K n Od room w0 mb fs nx M w w1 o m V op v nk kid a c E Q) (h1:op=5\/op=6\/op=7) (hF:fnT E=accT op kid nk) :
 Calls Tryz.prog 70 #[.pointer (some ⟨mb,0,none⟩),.agg #[.int .i64 op,.int .i64 v,.slice a nk c]] w Q:=by
 obtain⟨HKK,H5,HKS,HSZ,HPOS,IH,HW1,HG1,HSAT1,HWT,HB2,HQ,HMR,HCK,HCI,HEP,HME,hn64,hnx,hE1,hs1,d0,d1,d2,on,hw0,hp2,h2,h3⟩:=hctx;have h59:5<=op/\op<=9:=by omega
 have HFF:Hid (accT op kid nk=fnT E):=Hd hF.symm;have HCN:=Hd (fun b=>Zgc mb b w1)
 have HCP:Hid (∀ z:Int,z=(if op=5 then 1 else 0)->Calls Tryz.prog 139 #[.pointer (some ⟨mb,0,none⟩),.int .i64 z] w1 fun x w''=>x=.returned (.tuple #[.int .i64 nx,.int .i64 0])/\Goes K n Od room w0 mb (fs++[(nx,accT op kid 0)]) (nx+1) (NoW M) o w1 w''):=Hd (by
  rintro z rfl
  by_cases e:op=5
  ·
   rw[if_pos e,show accT op kid 0=fun _=>true by unfold accT;simp[e]];exact Zl6 HKK.out HG1.out (by omega) HB2.out.one
  ·
   rw[if_neg e,show accT op kid 0=fun _=>false by unfold accT;simp[e]];exact Zl6 HKK.out HG1.out (by omega) HB2.out.zero)
 obtain⟨A,hA⟩:∃ A:Nat->BF,A=accT op kid:=⟨_,rfl⟩;have HAJ:Hid (∀ i,Zhh op (A i) (fnT (kid i))=A (i+1)):=Hd fun i=>by rw[hA];rfl
 rw[<- hA] at HCP HFF;clear hA;rcases h1 with h1|h1|h1
 all_goals
  subst h1
  go_enter Tryz.func70,Tryz.ntmps70
  go_upto_region 1 with fail;rw[HW1.out];go_wp2_with fail;refine(HCN.out _).mono ?_;rintro y w' ⟨rfl,rfl⟩;go_wp2_with fail;refine(HCP.out _ (by rfl)).mono ?_;rintro y w2 ⟨rfl,g⟩;have HG0:=Hd g;clear g HCN HCP;go_wp2_with fail
  go_loopw [10,12,13,14] (fun s10 s12 s13 s14 wr=>∃ (i:Nat) (k:Int),i<=nk/\s10=.int .i64 k/\s12=.bool true/\s13=.int .i64 i/\Hid (k+3<=nx+3*((1+sumN i fun i=>(kid i).size:Nat):Int))/\Hid (Goes K n Od room w0 mb (fs++[(k,A i)]) (k+1) (NoW (M+(sumN i fun i=>(kid i).size)*2^n)) o w1 wr)) (fun _ _ s13 _ _=>nk-(intOf s13).toNat)
  case atStart=>exact⟨0,nx,Nat.zero_le _,rfl,rfl,rfl,Hd (by show nx+3<=nx+3*((1+0:Nat):Int);omega),Hd (HG0.out.more (Nat.le_add_right _ _))⟩
  case round =>
   obtain⟨i,k,hi,rfl,rfl,rfl,HN,HG⟩:=hrel;have e0:=HG.out.cell (p:=⟨w.heap.size,0,none⟩) d0 on;have e2:=HG.out.cell (p:=⟨w.heap.size,2,none⟩) d2 on
   by_cases hlt:i<nk
   ·
    obtain⟨b,off,x0,x1,x2,rfl,c0,c1,c2,hx⟩:=H5.out i hlt;have hb0:=HG.out.below0;have q0:=(hb0.cell (p:=⟨b,off+i*3,none⟩) (Zaa c0)).trans c0;have q1:=(hb0.cell (p:=⟨b,off+i*3+1,none⟩) (Zaa c1)).trans c1;have q2:=(hb0.cell (p:=⟨b,off+i*3+2,none⟩) (Zaa c2)).trans c2;have hiz:(i:Int)<nk:=by omega
    have hks:=HKS.out i hlt;obtain⟨o1,m1,V1,hc1,hw1',hs1'⟩:=HG.out;have hsum:=HN.out;have HCALL:=Hd (IH.out i _ (fs++[(k,A i)]) (k+1) _ o1 m1 V1 _ hlt hs1' hw1' (HB2.out.app _) hx (by omega) (by have:=HMR.out i hlt;omega));have HCH:=Hd hc1;clear hb0 c0 c1 c2 hx hs1' hw1' hc1;go_wp2_with fail;refine HCALL.out.mono ?_;rintro y w3 ⟨k2,rfl,hk2,g3⟩
    have HG3:Hid (Goes K n Od room w0 mb (fs++[(k,A i),(k2,fnT (kid i))]) (k2+1) (NoW (M+(sumN i fun i=>(kid i).size)*2^n+Zhe n (kid i).size)) o w1 w3):=Hd (by
     have:=g3.after HCH.out;rw[List.append_assoc] at this;exact this)
    have f0:=HG3.out.cell (p:=⟨w.heap.size,0,none⟩) d0 on;have HJ:=Hd (Zql HKK.out HG3.out HB2.out (by omega) (by have:=HMR.out i hlt;have:=HCI.out i;omega) h59.1 h59.2);clear g3 HCALL HCH q0 q1 q2 e0 e2;go_wp2_with fail;refine HJ.out.mono ?_;rintro y w4 ⟨k4,rfl,hk4,g4⟩
    have HG4:Hid (Goes K n Od room w0 mb (fs++[(k4,A (i+1))]) (k4+1) (NoW (M+(sumN (i+1) fun i=>(kid i).size)*2^n)) o w1 w4):=Hd (by
     rw[<- HAJ.out i];refine g4.more ?_
     show _<=M+((sumN i fun i=>(kid i).size)+(kid i).size)*2^n
     rw[Nat.add_mul];have:=HCI.out i;omega)
    have HN4:Hid (k4+3<=nx+3*((1+sumN (i+1) fun i=>(kid i).size:Nat):Int)):=Hd (by
     show k4+3<=nx+3*((1+((sumN i fun i=>(kid i).size)+(kid i).size):Nat):Int)
     omega)
    clear g4 HJ f0 HG3;go_wp2_with fail;go_roundw
    case rel=>exact⟨i+1,k4,by omega,rfl,rfl,by go_num,HN4,HG4⟩
    case measure=>simp[intOf];omega
   ·
    obtain rfl:i=nk:=by omega
    have hiz:¬ (i:Int)<i:=by omega
    have HF:=Hd (HQ.out k _ _ _ HFF.out (by have:=HN.out;have:=HSZ.out;omega) (by have:=HEP.out;omega) HG.out);go_wp2_with fail;exact HF.out
end
open Go.RowKit
section
variable {K:Law} {n:Nat} {Od:List Nat->Prop} {room:Nat} {w0 w w' w'':World} {mb:Nat} {fs fs':List (Int×BF)} {nx nx':Int} {o o':Own} {m m':ManD} {V V':Nat->BF}
theorem Ztl {w1:World} {op v:Int} {nk:Nat} {kid:Nat->ExT} {a:Option Addr} {c:Nat} {E:ExT} {Q:Ending->World->Prop} {M:Nat} (hctx:BCtx K n Od room w0 mb fs nx M w w1 o m V op v nk kid a c E Q) (h1:op=4) (hnk:nk=1) (hF:fnT E=notF (fnT (kid 0))) :
 Calls Tryz.prog 70 #[.pointer (some ⟨mb,0,none⟩),.agg #[.int .i64 op,.int .i64 v,.slice a nk c]] w Q:=by
 obtain⟨HKK,H5,HKS,HSZ,HPOS,IH,HW1,HG1,HSAT1,HWT,HB2,HQ,HMR,HCK,HCI,HEP,HME,hn64,hnx,hE1,hs1,d0,d1,d2,on,hw0,hp2,h2,h3⟩:=hctx;have g1:(op == 1)=false:=by simp;omega
 have g2:(op == 2)=false:=by simp;omega
 have g3:(op == 3)=false:=by simp;omega
 have g5:(op == 5)=false:=by simp;omega
 have g6:(op == 6)=false:=by simp;omega
 have g7:(op == 7)=false:=by simp;omega
 have g4:(op == 4)=true:=by simp;omega
 have HNK:=Hd hnk;clear h1 hnk;obtain⟨w2,hw2⟩:∃ w2,w2=w1.alloc (.cells #[] 3):=⟨_,rfl⟩;have HW2:Hid (_=w2):=Hd hw2.symm;have hb2':Below w1.heap.size w1 w2:=by rw[hw2];exact Zad _ _
 have HBS0:Hid (BuiS K n Od room w0 mb (fs++[]) nx (M+Zes n kid 0) o w1 (.slice (some ⟨w.heap.size+1,0,none⟩) 0 0) (([]:List (Int×BF)).map Prod.fst) w2):=Hd ⟨o,m,V,by rw[List.append_nil];exact HSAT1.out.below hb2',HWT.out,Zcr hb2' o,by rw[hw2,<- hs1];exact Zfr _ _ _ (Nat.le_refl _),fun k hk=>by cases hk;rw[<- hs1];exact HSAT1.out.lt.none (Nat.le_refl _)⟩;have HB12:=Hd hb2';clear hw2 hb2'
 go_enter Tryz.func70,Tryz.ntmps70
 go_upto_region 1 with fail;rw[HW1.out];go_upto_region 23 with fail;rw[HW2.out];have e2:=(HB12.out.cell (p:=⟨w.heap.size,2,none⟩) (Zaa d2)).trans d2;go_wp2_with fail
 go_loopw [15,106] (fun s15 s106 wr=>∃ (i:Nat) (hs:List (Int×BF)) (nxi:Int),i<=nk/\s106=.int .i64 i/\hs.length=i/\nxi+2*i<=nx+3*((sumN i fun i=>(kid i).size:Nat):Int)/\Hid (∀ j (hj:j<hs.length),hs[j].2=fnT (kid j))/\Hid (BuiS K n Od room w0 mb (fs++hs) nxi (M+Zes n kid i) o w1 s15 (hs.map Prod.fst) wr)) (fun _ s106 _=>nk-(intOf s106).toNat)
 case atStart=>exact⟨0,[],nx,Nat.zero_le _,rfl,rfl,by show nx+2*((0:Nat):Int)<=nx+3*((0:Nat):Int);omega,Hd (fun j hj=>by simp at hj),HBS0⟩
 case round =>
  clear HBS0 HB12 e2
  rename World=>wy
  obtain⟨i,hs,nxi,hi,rfl,hhl,hnxi,HFS,HBS⟩:=hrel
  by_cases hlt:i<nk
  ·
   obtain⟨b,off,x0,x1,x2,rfl,c0,c1,c2,hx⟩:=H5.out i hlt;have hb0:=HBS.out.goes.below0;have q0:=(hb0.cell (p:=⟨b,off+i*3,none⟩) (Zaa c0)).trans c0;have q1:=(hb0.cell (p:=⟨b,off+i*3+1,none⟩) (Zaa c1)).trans c1;have q2:=(hb0.cell (p:=⟨b,off+i*3+2,none⟩) (Zaa c2)).trans c2;obtain⟨zo,zv,za,zn,zc,rfl,rfl,rfl⟩:=hx.parts;have hiz:(i:Int)<nk:=by omega
   have hks:=HKS.out i hlt;obtain⟨wz,hwz⟩:∃ wz,wz=wy.alloc (.cells #[.int .i64 zo,.int .i64 zv,.slice za zn zc] 86):=⟨_,rfl⟩;have HWZ:Hid (_=wz):=Hd hwz.symm;have hbz:Below wy.heap.size wy wz:=by rw[hwz];exact Zad _ _
   have hblk:wz.heap[wy.heap.size]?=some (.cells #[.int .i64 zo,.int .i64 zv,.slice za zn zc] 86 (0,0)):=by rw[hwz];exact heap_alloc_new _ _
   have p0:wz.cell? ⟨wy.heap.size,0,none⟩=some (.int .i64 zo):=by rw[cell_of_row _ _ 0 _ _ _ hblk];rfl
   have p1:wz.cell? ⟨wy.heap.size,1,none⟩=some (.int .i64 zv):=by rw[cell_of_row _ _ 1 _ _ _ hblk];rfl
   have p2:wz.cell? ⟨wy.heap.size,2,none⟩=some (.slice za zn zc):=by rw[cell_of_row _ _ 2 _ _ _ hblk];rfl
   obtain⟨o1,m1,V1,bt⟩:=HBS.out.below hbz;have hpos:=HPOS.out i;have HCALL:=Hd (IH.out i _ (fs++hs) nxi wz o1 m1 V1 _ hlt bt.sat bt.waits (HB2.out.app _) hx (by omega) (by have:=HMR.out i hlt;have:=HCK.out i;omega));have HBT:=Hd bt;clear hb0 c0 c1 c2 hx bt hwz hbz hblk HBS;go_upto_region 26 with fail;rw[HWZ.out];clear q0 q1 q2;go_wp2_with fail;refine HCALL.out.mono ?_;rintro y w3 ⟨k2,rfl,hk2,gg⟩;have HBS3:=Hd (HBT.out.go (M':=M+Zes n kid (i+1)) (gg.more (Nat.le_of_eq (Nat.add_assoc _ _ _))));have HF3:Hid (∀ j (hj:j<(hs++[(k2,fnT (kid i))]).length),(hs++[(k2,fnT (kid i))])[j].2=fnT (kid j)):=Hd fun j hj=>by
    rcases Nat.lt_or_ge j hs.length with h|h
    ·
     rw[List.getElem_append_left h];exact HFS.out j h
    ·
     have hj':j=i:=by simp at hj;omega
     subst hj';rw[List.getElem_append_right (by omega)];simp
   clear gg HCALL HBT p0 p1 p2;obtain⟨o3,m3,V3,bt3⟩:=HBS3.out;have hsz3:w1.heap.size<=w3.heap.size:=bt3.chg.size;have HBT3:=Hd bt3;clear bt3;go_upto_region 30 with (at_builtin;refine Zcx Zl9 _ rfl _ _ rfl w1.heap.size _ (Zbh (hs.map Prod.fst)) _ rfl rfl rfl rfl rfl (by exact HBT3.out.l.own) (by simp[Zbh];omega) hsz3 ?_;intro v5 w5 hown5 r1 r2 r3 r4 hk5)
   have HBS5:Hid (BuiS K n Od room w0 mb (fs++(hs++[(k2,fnT (kid i))])) (k2+1) (M+Zes n kid (i+1)) o w1 v5 ((hs++[(k2,fnT (kid i))]).map Prod.fst) w5):=Hd (by
    have:=BuiS.app HBT3.out hown5 r1 r2 r3 r4 hk5 hw0;rw[List.append_assoc] at this;rw[List.map_append];exact this)
   clear hown5 r1 r2 r3 r4 hk5 HBT3 HBS3;go_wp2_with fail;go_roundw
   case rel=>exact⟨i+1,hs++[(k2,fnT (kid i))],k2+1,by omega,by go_num,by simp;omega,by
    show k2+1+2*((i+1:Nat):Int)<=nx+3*(((sumN i fun i=>(kid i).size)+(kid i).size:Nat):Int)
    omega,HF3,HBS5⟩
   case measure=>simp[intOf];omega
  ·
   obtain rfl:i=nk:=by omega
   have hiz:¬ (i:Int)<i:=by omega
   have f0:=HBS.out.goes.cell (p:=⟨w.heap.size,0,none⟩) d0 on;have hszn:=HSZ.out;have hsum:nxi+2*i+3<=nx+3*E.size:=by omega
   have hnk:=HNK.out;have hnk1:1<=i:=by omega
   clear hszn H5 IH HSZ HKS HPOS;obtain⟨o1,m1,V1,bt⟩:=HBS.out;have HBT:=Hd bt;clear bt;subst hnk;obtain⟨⟨k0,F0⟩,rfl⟩:=List.length_eq_one_iff.1 hhl;obtain⟨g,cp,rfl,hcells⟩:=HBS.out.cellsN (i:=1) rfl (by omega);have c0:wy.cell? ⟨g,0,none⟩=some (.int .i64 k0):=hcells 0 (by omega);have HF:Hid (notF F0=fnT E):=Hd (by rw[hF,<- HFS.out 0 (by simp)];rfl);have HN:=Hd (Zya HKK.out HBT.out.refl (by omega) (k:=k0) (F:=F0) (by simp));clear hcells;go_wp2_with fail;refine HN.out.mono ?_;rintro y w3 ⟨rfl,g3⟩;have HB3:=Hd (HBT.out.go g3);obtain⟨g',cp',ev,hc3⟩:=HB3.out.cellsN (i:=1) rfl (by omega);cases ev;have c3:w3.cell? ⟨g,0,none⟩=some (.int .i64 k0):=hc3 0 (by omega);have HD:=Hd (Zl8 HKK.out (hs:=[(k0,F0)]) (r:=[(nxi,notF F0)]) (by have:=HB3.out.goes;rw[List.append_assoc] at this;exact this) HB2.out (by omega) (by simp) (T:=w3.alloc (.cells #[.int .i64 k0] 3)) rfl);clear g3 hc3 HN;go_wp2_with fail;refine HD.out.mono ?_;rintro y w4 ⟨rfl,g4⟩;have HFN:=Hd (HQ.out nxi _ w4 _ HF.out (by omega) (by have:=HEP.out;have:=HCK.out 1;omega) g4);clear g4 HD;go_wp2_with fail;exact HFN.out
end
open Go.RowKit
section
variable {K:Law} {n:Nat} {Od:List Nat->Prop} {room:Nat} {w0 w w' w'':World} {mb:Nat} {fs fs':List (Int×BF)} {nx nx':Int} {o o':Own} {m m':ManD} {V V':Nat->BF}
theorem Ztm {w1:World} {op v:Int} {nk:Nat} {kid:Nat->ExT} {a:Option Addr} {c:Nat} {E:ExT} {Q:Ending->World->Prop} {M:Nat} (hctx:BCtx K n Od room w0 mb fs nx M w w1 o m V op v nk kid a c E Q) (h1:op=8\/op=9) (hnk:nk=2) (hF:fnT E=Zhh op (fnT (kid 0)) (fnT (kid 1))) :
 Calls Tryz.prog 70 #[.pointer (some ⟨mb,0,none⟩),.agg #[.int .i64 op,.int .i64 v,.slice a nk c]] w Q:=by
 obtain⟨HKK,H5,HKS,HSZ,HPOS,IH,HW1,HG1,HSAT1,HWT,HB2,HQ,HMR,HCK,HCI,HEP,HME,hn64,hnx,hE1,hs1,d0,d1,d2,on,hw0,hp2,h2,h3⟩:=hctx;have g1:(op == 1)=false:=by simp;omega
 have g2:(op == 2)=false:=by simp;omega
 have g3:(op == 3)=false:=by simp;omega
 have g5:(op == 5)=false:=by simp;omega
 have g6:(op == 6)=false:=by simp;omega
 have g7:(op == 7)=false:=by simp;omega
 have g4:(op == 4)=false:=by simp;omega
 have g10:(op == 10)=false:=by simp;omega
 have HNK:=Hd hnk;have H1:=Hd h1;clear h1 hnk;obtain⟨w2,hw2⟩:∃ w2,w2=w1.alloc (.cells #[] 3):=⟨_,rfl⟩;have HW2:Hid (_=w2):=Hd hw2.symm;have hb2':Below w1.heap.size w1 w2:=by rw[hw2];exact Zad _ _
 have HBS0:Hid (BuiS K n Od room w0 mb (fs++[]) nx (M+Zes n kid 0) o w1 (.slice (some ⟨w.heap.size+1,0,none⟩) 0 0) (([]:List (Int×BF)).map Prod.fst) w2):=Hd ⟨o,m,V,by rw[List.append_nil];exact HSAT1.out.below hb2',HWT.out,Zcr hb2' o,by rw[hw2,<- hs1];exact Zfr _ _ _ (Nat.le_refl _),fun k hk=>by cases hk;rw[<- hs1];exact HSAT1.out.lt.none (Nat.le_refl _)⟩;have HB12:=Hd hb2';clear hw2 hb2'
 go_enter Tryz.func70,Tryz.ntmps70
 go_upto_region 1 with fail;rw[HW1.out];go_upto_region 23 with fail;rw[HW2.out];have e2:=(HB12.out.cell (p:=⟨w.heap.size,2,none⟩) (Zaa d2)).trans d2;go_wp2_with fail
 go_loopw [15,106] (fun s15 s106 wr=>∃ (i:Nat) (hs:List (Int×BF)) (nxi:Int),i<=nk/\s106=.int .i64 i/\hs.length=i/\nxi+2*i<=nx+3*((sumN i fun i=>(kid i).size:Nat):Int)/\Hid (∀ j (hj:j<hs.length),hs[j].2=fnT (kid j))/\Hid (BuiS K n Od room w0 mb (fs++hs) nxi (M+Zes n kid i) o w1 s15 (hs.map Prod.fst) wr)) (fun _ s106 _=>nk-(intOf s106).toNat)
 case atStart=>exact⟨0,[],nx,Nat.zero_le _,rfl,rfl,by show nx+2*((0:Nat):Int)<=nx+3*((0:Nat):Int);omega,Hd (fun j hj=>by simp at hj),HBS0⟩
 case round =>
  clear HBS0 HB12 e2
  rename World=>wy
  obtain⟨i,hs,nxi,hi,rfl,hhl,hnxi,HFS,HBS⟩:=hrel
  by_cases hlt:i<nk
  ·
   obtain⟨b,off,x0,x1,x2,rfl,c0,c1,c2,hx⟩:=H5.out i hlt;have hb0:=HBS.out.goes.below0;have q0:=(hb0.cell (p:=⟨b,off+i*3,none⟩) (Zaa c0)).trans c0;have q1:=(hb0.cell (p:=⟨b,off+i*3+1,none⟩) (Zaa c1)).trans c1;have q2:=(hb0.cell (p:=⟨b,off+i*3+2,none⟩) (Zaa c2)).trans c2;obtain⟨zo,zv,za,zn,zc,rfl,rfl,rfl⟩:=hx.parts;have hiz:(i:Int)<nk:=by omega
   have hks:=HKS.out i hlt;obtain⟨wz,hwz⟩:∃ wz,wz=wy.alloc (.cells #[.int .i64 zo,.int .i64 zv,.slice za zn zc] 86):=⟨_,rfl⟩;have HWZ:Hid (_=wz):=Hd hwz.symm;have hbz:Below wy.heap.size wy wz:=by rw[hwz];exact Zad _ _
   have hblk:wz.heap[wy.heap.size]?=some (.cells #[.int .i64 zo,.int .i64 zv,.slice za zn zc] 86 (0,0)):=by rw[hwz];exact heap_alloc_new _ _
   have p0:wz.cell? ⟨wy.heap.size,0,none⟩=some (.int .i64 zo):=by rw[cell_of_row _ _ 0 _ _ _ hblk];rfl
   have p1:wz.cell? ⟨wy.heap.size,1,none⟩=some (.int .i64 zv):=by rw[cell_of_row _ _ 1 _ _ _ hblk];rfl
   have p2:wz.cell? ⟨wy.heap.size,2,none⟩=some (.slice za zn zc):=by rw[cell_of_row _ _ 2 _ _ _ hblk];rfl
   obtain⟨o1,m1,V1,bt⟩:=HBS.out.below hbz;have hpos:=HPOS.out i;have HCALL:=Hd (IH.out i _ (fs++hs) nxi wz o1 m1 V1 _ hlt bt.sat bt.waits (HB2.out.app _) hx (by omega) (by have:=HMR.out i hlt;have:=HCK.out i;omega));have HBT:=Hd bt;clear hb0 c0 c1 c2 hx bt hwz hbz hblk HBS;go_upto_region 26 with fail;rw[HWZ.out];clear q0 q1 q2;go_wp2_with fail;refine HCALL.out.mono ?_;rintro y w3 ⟨k2,rfl,hk2,gg⟩;have HBS3:=Hd (HBT.out.go (M':=M+Zes n kid (i+1)) (gg.more (Nat.le_of_eq (Nat.add_assoc _ _ _))));have HF3:Hid (∀ j (hj:j<(hs++[(k2,fnT (kid i))]).length),(hs++[(k2,fnT (kid i))])[j].2=fnT (kid j)):=Hd fun j hj=>by
    rcases Nat.lt_or_ge j hs.length with h|h
    ·
     rw[List.getElem_append_left h];exact HFS.out j h
    ·
     have hj':j=i:=by simp at hj;omega
     subst hj';rw[List.getElem_append_right (by omega)];simp
   clear gg HCALL HBT p0 p1 p2;obtain⟨o3,m3,V3,bt3⟩:=HBS3.out;have hsz3:w1.heap.size<=w3.heap.size:=bt3.chg.size;have HBT3:=Hd bt3;clear bt3;go_upto_region 30 with (at_builtin;refine Zcx Zl9 _ rfl _ _ rfl w1.heap.size _ (Zbh (hs.map Prod.fst)) _ rfl rfl rfl rfl rfl (by exact HBT3.out.l.own) (by simp[Zbh];omega) hsz3 ?_;intro v5 w5 hown5 r1 r2 r3 r4 hk5)
   have HBS5:Hid (BuiS K n Od room w0 mb (fs++(hs++[(k2,fnT (kid i))])) (k2+1) (M+Zes n kid (i+1)) o w1 v5 ((hs++[(k2,fnT (kid i))]).map Prod.fst) w5):=Hd (by
    have:=BuiS.app HBT3.out hown5 r1 r2 r3 r4 hk5 hw0;rw[List.append_assoc] at this;rw[List.map_append];exact this)
   clear hown5 r1 r2 r3 r4 hk5 HBT3 HBS3;go_wp2_with fail;go_roundw
   case rel=>exact⟨i+1,hs++[(k2,fnT (kid i))],k2+1,by omega,by go_num,by simp;omega,by
    show k2+1+2*((i+1:Nat):Int)<=nx+3*(((sumN i fun i=>(kid i).size)+(kid i).size:Nat):Int)
    omega,HF3,HBS5⟩
   case measure=>simp[intOf];omega
  ·
   obtain rfl:i=nk:=by omega
   have hiz:¬ (i:Int)<i:=by omega
   have f0:=HBS.out.goes.cell (p:=⟨w.heap.size,0,none⟩) d0 on;have hszn:=HSZ.out;have hsum:nxi+2*i+3<=nx+3*E.size:=by omega
   have hnk:=HNK.out;have hnk1:1<=i:=by omega
   clear hszn H5 IH HSZ HKS HPOS;obtain⟨o1,m1,V1,bt⟩:=HBS.out;have HBT:=Hd bt;clear bt;subst hnk;obtain⟨⟨k0,F0⟩,⟨k1',F1⟩,rfl⟩:=Zzj hhl;obtain⟨g,cp,rfl,hcells⟩:=HBS.out.cellsN (i:=2) rfl (by omega);have c0:wy.cell? ⟨g,0,none⟩=some (.int .i64 k0):=hcells 0 (by omega);have c1:wy.cell? ⟨g,1,none⟩=some (.int .i64 k1'):=hcells 1 (by omega);have HF:Hid (Zhh op F0 F1=fnT E):=Hd (by rw[hF,<- HFS.out 0 (by simp),<- HFS.out 1 (by simp)];rfl);have HJ:Hid (∀ W,W=wy.drew->Calls Tryz.prog 141 #[.pointer (some ⟨mb,0,none⟩),.int .i64 op,.int .i64 k0,.int .i64 k1'] W fun x w''=>∃ k:Int,x=.returned (.tuple #[.int .i64 k,.bool true])/\k<=nxi+1/\Goes K n Od room w0 mb (fs++[(k,Zhh op F0 F1)]) (k+1) (NoW (M+Zes n kid 2+(2^n-1))) o1 wy w'') :=
    Hd fun W hW=>by subst hW;exact Zql HKK.out (HBT.out.refl.below (Zai wy 1)) HB2.out (by omega) (by have:=HEP.out;have:=HCK.out 2;have:=HME.out;omega) (by have:=H1.out;omega) (by have:=H1.out;omega)
   clear hcells;go_upto_region 39 with fail;refine Zap (fun W:World=>W.cell? ⟨w.heap.size,0,none⟩=some (.int .i64 op)/\W.cell? ⟨g,0,none⟩=some (.int .i64 k0)/\W.cell? ⟨g,1,none⟩=some (.int .i64 k1')) false 14
    [(0,false),(1,false),(2,false),(3,false),(4,false),(5,false),(6,false),(7,false),(8,false),(9,true),(10,false),(11,false),(12,false),(13,false)] (by kernel_rfl) (by kernel_rfl) ⟨f0,c0,c1⟩ ?_
   simp only[planned,Zdl]
   iterate 9
    refine Zar rfl ?_;apply Exists.intro;refine⟨fun w' hw=>?_,?_⟩
    ·
     obtain⟨h1,h2,h3⟩:=hw;go_simp;rfl
    simp only[Zah]
   refine Zb1 (R:=fun v w'=>∃ k:Int,v=.tuple #[.int .i64 k,.bool true]/\k<=nxi+1/\Goes K n Od room w0 mb (fs++[(k,Zhh op F0 F1)]) (k+1) (NoW (M+Zes n kid 2+(2^n-1))) o1 wy w') rfl (by go_simp) ((HJ.out _ rfl).mono (fun e w' he=>?_)) ?_
   ·
    obtain⟨k,rfl,q1,q2⟩:=he;have hb:=HBT.out.go q2;obtain⟨g',cp',ev,hc3⟩:=hb.cellsN (i:=2) rfl (by omega);cases ev;exact⟨_,rfl,⟨hb.goes.cell (p:=⟨w.heap.size,0,none⟩) d0 on,hc3 0 (by omega),hc3 1 (by omega)⟩,k,rfl,q1,q2⟩
   rintro v w3-⟨k,rfl,q1,q2⟩;have HFN:=Hd (HQ.out k _ w3 _ HF.out (by omega) (by have:=HEP.out;have:=HCK.out 2;omega) (HBT.out.go q2).goes);clear q2 HJ;simp only[Zah]
   iterate 4
    refine Zar rfl ?_;apply Exists.intro;refine⟨fun w' hw=>?_,?_⟩
    ·
     obtain⟨h1,h2,h3⟩:=hw;go_simp;rfl
    simp only[Zah]
   refine Zfp ?_;go_wp2_with fail;exact HFN.out
end
open Go.RowKit
section
variable {K:Law} {n:Nat} {Od:List Nat->Prop} {room:Nat} {w0 w w' w'':World} {mb:Nat} {fs fs':List (Int×BF)} {nx nx':Int} {o o':Own} {m m':ManD} {V V':Nat->BF}
theorem Ztk {w1:World} {op v:Int} {nk:Nat} {kid:Nat->ExT} {a:Option Addr} {c:Nat} {E:ExT} {Q:Ending->World->Prop} {M:Nat} (hctx:BCtx K n Od room w0 mb fs nx M w w1 o m V op v nk kid a c E Q) (h1:op=10) (hnk:nk=3) (hF:fnT E=Zct (fnT (kid 0)) (fnT (kid 1)) (fnT (kid 2))) :
 Calls Tryz.prog 70 #[.pointer (some ⟨mb,0,none⟩),.agg #[.int .i64 op,.int .i64 v,.slice a nk c]] w Q:=by
 obtain⟨HKK,H5,HKS,HSZ,HPOS,IH,HW1,HG1,HSAT1,HWT,HB2,HQ,HMR,HCK,HCI,HEP,HME,hn64,hnx,hE1,hs1,d0,d1,d2,on,hw0,hp2,h2,h3⟩:=hctx;have g1:(op == 1)=false:=by simp;omega
 have g2:(op == 2)=false:=by simp;omega
 have g3:(op == 3)=false:=by simp;omega
 have g5:(op == 5)=false:=by simp;omega
 have g6:(op == 6)=false:=by simp;omega
 have g7:(op == 7)=false:=by simp;omega
 have g4:(op == 4)=false:=by simp;omega
 have g10:(op == 10)=true:=by simp;omega
 have HNK:=Hd hnk;clear h1 hnk;obtain⟨w2,hw2⟩:∃ w2,w2=w1.alloc (.cells #[] 3):=⟨_,rfl⟩;have HW2:Hid (_=w2):=Hd hw2.symm;have hb2':Below w1.heap.size w1 w2:=by rw[hw2];exact Zad _ _
 have HBS0:Hid (BuiS K n Od room w0 mb (fs++[]) nx (M+Zes n kid 0) o w1 (.slice (some ⟨w.heap.size+1,0,none⟩) 0 0) (([]:List (Int×BF)).map Prod.fst) w2):=Hd ⟨o,m,V,by rw[List.append_nil];exact HSAT1.out.below hb2',HWT.out,Zcr hb2' o,by rw[hw2,<- hs1];exact Zfr _ _ _ (Nat.le_refl _),fun k hk=>by cases hk;rw[<- hs1];exact HSAT1.out.lt.none (Nat.le_refl _)⟩;have HB12:=Hd hb2';clear hw2 hb2'
 go_enter Tryz.func70,Tryz.ntmps70
 go_upto_region 1 with fail;rw[HW1.out];go_upto_region 23 with fail;rw[HW2.out];have e2:=(HB12.out.cell (p:=⟨w.heap.size,2,none⟩) (Zaa d2)).trans d2;go_wp2_with fail
 go_loopw [15,106] (fun s15 s106 wr=>∃ (i:Nat) (hs:List (Int×BF)) (nxi:Int),i<=nk/\s106=.int .i64 i/\hs.length=i/\nxi+2*i<=nx+3*((sumN i fun i=>(kid i).size:Nat):Int)/\Hid (∀ j (hj:j<hs.length),hs[j].2=fnT (kid j))/\Hid (BuiS K n Od room w0 mb (fs++hs) nxi (M+Zes n kid i) o w1 s15 (hs.map Prod.fst) wr)) (fun _ s106 _=>nk-(intOf s106).toNat)
 case atStart=>exact⟨0,[],nx,Nat.zero_le _,rfl,rfl,by show nx+2*((0:Nat):Int)<=nx+3*((0:Nat):Int);omega,Hd (fun j hj=>by simp at hj),HBS0⟩
 case round =>
  clear HBS0 HB12 e2
  rename World=>wy
  obtain⟨i,hs,nxi,hi,rfl,hhl,hnxi,HFS,HBS⟩:=hrel
  by_cases hlt:i<nk
  ·
   obtain⟨b,off,x0,x1,x2,rfl,c0,c1,c2,hx⟩:=H5.out i hlt;have hb0:=HBS.out.goes.below0;have q0:=(hb0.cell (p:=⟨b,off+i*3,none⟩) (Zaa c0)).trans c0;have q1:=(hb0.cell (p:=⟨b,off+i*3+1,none⟩) (Zaa c1)).trans c1;have q2:=(hb0.cell (p:=⟨b,off+i*3+2,none⟩) (Zaa c2)).trans c2;obtain⟨zo,zv,za,zn,zc,rfl,rfl,rfl⟩:=hx.parts;have hiz:(i:Int)<nk:=by omega
   have hks:=HKS.out i hlt;obtain⟨wz,hwz⟩:∃ wz,wz=wy.alloc (.cells #[.int .i64 zo,.int .i64 zv,.slice za zn zc] 86):=⟨_,rfl⟩;have HWZ:Hid (_=wz):=Hd hwz.symm;have hbz:Below wy.heap.size wy wz:=by rw[hwz];exact Zad _ _
   have hblk:wz.heap[wy.heap.size]?=some (.cells #[.int .i64 zo,.int .i64 zv,.slice za zn zc] 86 (0,0)):=by rw[hwz];exact heap_alloc_new _ _
   have p0:wz.cell? ⟨wy.heap.size,0,none⟩=some (.int .i64 zo):=by rw[cell_of_row _ _ 0 _ _ _ hblk];rfl
   have p1:wz.cell? ⟨wy.heap.size,1,none⟩=some (.int .i64 zv):=by rw[cell_of_row _ _ 1 _ _ _ hblk];rfl
   have p2:wz.cell? ⟨wy.heap.size,2,none⟩=some (.slice za zn zc):=by rw[cell_of_row _ _ 2 _ _ _ hblk];rfl
   obtain⟨o1,m1,V1,bt⟩:=HBS.out.below hbz;have hpos:=HPOS.out i;have HCALL:=Hd (IH.out i _ (fs++hs) nxi wz o1 m1 V1 _ hlt bt.sat bt.waits (HB2.out.app _) hx (by omega) (by have:=HMR.out i hlt;have:=HCK.out i;omega));have HBT:=Hd bt;clear hb0 c0 c1 c2 hx bt hwz hbz hblk HBS;go_upto_region 26 with fail;rw[HWZ.out];clear q0 q1 q2;go_wp2_with fail;refine HCALL.out.mono ?_;rintro y w3 ⟨k2,rfl,hk2,gg⟩;have HBS3:=Hd (HBT.out.go (M':=M+Zes n kid (i+1)) (gg.more (Nat.le_of_eq (Nat.add_assoc _ _ _))));have HF3:Hid (∀ j (hj:j<(hs++[(k2,fnT (kid i))]).length),(hs++[(k2,fnT (kid i))])[j].2=fnT (kid j)):=Hd fun j hj=>by
    rcases Nat.lt_or_ge j hs.length with h|h
    ·
     rw[List.getElem_append_left h];exact HFS.out j h
    ·
     have hj':j=i:=by simp at hj;omega
     subst hj';rw[List.getElem_append_right (by omega)];simp
   clear gg HCALL HBT p0 p1 p2;obtain⟨o3,m3,V3,bt3⟩:=HBS3.out;have hsz3:w1.heap.size<=w3.heap.size:=bt3.chg.size;have HBT3:=Hd bt3;clear bt3;go_upto_region 30 with (at_builtin;refine Zcx Zl9 _ rfl _ _ rfl w1.heap.size _ (Zbh (hs.map Prod.fst)) _ rfl rfl rfl rfl rfl (by exact HBT3.out.l.own) (by simp[Zbh];omega) hsz3 ?_;intro v5 w5 hown5 r1 r2 r3 r4 hk5)
   have HBS5:Hid (BuiS K n Od room w0 mb (fs++(hs++[(k2,fnT (kid i))])) (k2+1) (M+Zes n kid (i+1)) o w1 v5 ((hs++[(k2,fnT (kid i))]).map Prod.fst) w5):=Hd (by
    have:=BuiS.app HBT3.out hown5 r1 r2 r3 r4 hk5 hw0;rw[List.append_assoc] at this;rw[List.map_append];exact this)
   clear hown5 r1 r2 r3 r4 hk5 HBT3 HBS3;go_wp2_with fail;go_roundw
   case rel=>exact⟨i+1,hs++[(k2,fnT (kid i))],k2+1,by omega,by go_num,by simp;omega,by
    show k2+1+2*((i+1:Nat):Int)<=nx+3*(((sumN i fun i=>(kid i).size)+(kid i).size:Nat):Int)
    omega,HF3,HBS5⟩
   case measure=>simp[intOf];omega
  ·
   obtain rfl:i=nk:=by omega
   have hiz:¬ (i:Int)<i:=by omega
   have f0:=HBS.out.goes.cell (p:=⟨w.heap.size,0,none⟩) d0 on;have hszn:=HSZ.out;have hsum:nxi+2*i+3<=nx+3*E.size:=by omega
   have hnk:=HNK.out;have hnk1:1<=i:=by omega
   clear hszn H5 IH HSZ HKS HPOS;obtain⟨o1,m1,V1,bt⟩:=HBS.out;have HBT:=Hd bt;clear bt;subst hnk;obtain⟨⟨k0,F0⟩,⟨k1',F1⟩,⟨k2',F2⟩,rfl⟩:=Zuo hhl;obtain⟨g,cp,rfl,hcells⟩:=HBS.out.cellsN (i:=3) rfl (by omega);have c0:wy.cell? ⟨g,0,none⟩=some (.int .i64 k0):=hcells 0 (by omega);have c1:wy.cell? ⟨g,1,none⟩=some (.int .i64 k1'):=hcells 1 (by omega);have c2:wy.cell? ⟨g,2,none⟩=some (.int .i64 k2'):=hcells 2 (by omega);have HF:Hid (Zct F0 F1 F2=fnT E):=Hd (by rw[hF,<- HFS.out 0 (by simp),<- HFS.out 1 (by simp),<- HFS.out 2 (by simp)];rfl);have HI:Hid (∀ W,W=wy.drew->Calls Tryz.prog 21 #[.pointer (some ⟨mb,0,none⟩),.int .i64 k0,.int .i64 k1',.int .i64 k2'] W fun x w''=>x=.returned (.tuple #[.int .i64 nxi,.int .i64 0])/\Goes K n Od room w0 mb (fs++[(k0,F0),(k1',F1),(k2',F2)]++[(nxi,Zct F0 F1 F2)]) (nxi+1) (NoW (M+Zes n kid 3+(2^n-1))) o1 wy w'') :=
    Hd fun W hW=>by subst hW;exact Zui HKK.out (HBT.out.refl.below (Zai wy 1)) (by omega) (by have:=HEP.out;have:=HCK.out 3;have:=HME.out;omega) (by simp) (by simp) (by simp)
   clear hcells;go_upto_region 36 with fail;refine Zap (fun W:World=>W.cell? ⟨g,0,none⟩=some (.int .i64 k0)/\W.cell? ⟨g,1,none⟩=some (.int .i64 k1')/\W.cell? ⟨g,2,none⟩=some (.int .i64 k2')) false 16
    [(0,false),(1,false),(2,false),(3,false),(4,false),(5,false),(6,false),(7,false),(8,false),(9,false),(10,true),(11,false),(12,false),(13,false),(14,false),(15,false)] (by kernel_rfl) (by kernel_rfl) ⟨c0,c1,c2⟩ ?_
   simp only[planned,Zdl]
   iterate 10
    refine Zar rfl ?_;apply Exists.intro;refine⟨fun w' hw=>?_,?_⟩
    ·
     obtain⟨h1,h2,h3⟩:=hw;go_simp;rfl
    simp only[Zah]
   refine Zb1 (R:=fun v w'=>v=.tuple #[.int .i64 nxi,.int .i64 0]/\Goes K n Od room w0 mb (fs++[(k0,F0),(k1',F1),(k2',F2)]++[(nxi,Zct F0 F1 F2)]) (nxi+1) (NoW (M+Zes n kid 3+(2^n-1))) o1 wy w') rfl (by go_simp) ((HI.out _ rfl).mono (fun e w' he=>?_)) ?_
   ·
    obtain⟨rfl,q2⟩:=he;have hb:=HBT.out.go q2;obtain⟨g',cp',ev,hc3⟩:=hb.cellsN (i:=3) rfl (by omega);cases ev;exact⟨_,rfl,⟨hc3 0 (by omega),hc3 1 (by omega),hc3 2 (by omega)⟩,rfl,q2⟩
   rintro v w3 ⟨d0',d1',d2'⟩ ⟨rfl,q2⟩;obtain⟨o3,m3,V3,bt3⟩:=HBT.out.go q2;have HBT3:=Hd bt3;clear q2 HI bt3 c0 c1 c2 HBS;simp only[Zah]
   iterate 5
    refine Zar rfl ?_;apply Exists.intro;refine⟨fun w' hw=>?_,?_⟩
    ·
     obtain⟨h1,h2,h3⟩:=hw;go_simp;rfl
    simp only[Zah]
   refine Zfp ?_;have HD:Hid (∀ W T,Below w3.heap.size w3 W->T=W.alloc (.cells #[.int .i64 k0,.int .i64 k1',.int .i64 k2'] 3)->Calls Tryz.prog 50 #[.pointer (some ⟨mb,0,none⟩),.slice (some ⟨W.heap.size,0,none⟩) 3 3] T fun x w''=>x=.returned (.int .i64 0)/\Goes K n Od room w0 mb (fs++[(nxi,Zct F0 F1 F2)]) (nxi+1) (NoW (M+Zes n kid 3+(2^n-1))) o3 w3 w'') :=
    Hd fun W T hW hT=>Zl8 HKK.out (hs:=[(k0,F0),(k1',F1),(k2',F2)]) (r:=[(nxi,Zct F0 F1 F2)]) (by have:=HBT3.out.refl;rw[List.append_assoc] at this;exact this.below hW) HB2.out (by omega) (by simp) hT
   go_upto_region 37 with fail;refine Zap (fun W:World=>W.cell? ⟨g,0,none⟩=some (.int .i64 k0)/\W.cell? ⟨g,1,none⟩=some (.int .i64 k1')/\W.cell? ⟨g,2,none⟩=some (.int .i64 k2')) false 20
    [(0,false),(1,false),(2,false),(3,false),(4,false),(5,false),(6,false),(7,false),(8,false),(9,false),(10,false),(11,false),(12,false),(13,false),(14,true),(15,true),(16,false),(17,false),(18,false),(19,false)] (by kernel_rfl) (by kernel_rfl) ⟨d0',d1',d2'⟩ ?_
   simp only[planned,Zdl]
   iterate 4
    refine Zar rfl ?_;apply Exists.intro;refine⟨fun w' hw=>?_,?_⟩
    ·
     obtain⟨h1,h2,h3⟩:=hw;go_simp;rfl
    simp only[Zah]
   iterate 10
    refine Zip true (by go_simp) ?_;apply Exists.intro;refine⟨fun hgd w' hw=>?_,?_⟩
    ·
     obtain⟨h1,h2,h3⟩:=hw;go_simp;rfl
    simp only[Zah]
   have hbn:=Zad w3.drew (.cells #[.int .i64 k0,.int .i64 k1',.int .i64 k2'] 3);refine Zsj (v:=.slice (some ⟨w3.heap.size,0,none⟩) 3 3) (w':=w3.drew.alloc (.cells #[.int .i64 k0,.int .i64 k1',.int .i64 k2'] 3)) (by go_simp) (by go_simp) ⟨(hbn.cell (p:=⟨g,0,none⟩) (Zaa (w:=w3.drew) d0')).trans d0',(hbn.cell (p:=⟨g,1,none⟩) (Zaa (w:=w3.drew) d1')).trans d1',(hbn.cell (p:=⟨g,2,none⟩) (Zaa (w:=w3.drew) d2')).trans d2'⟩ ?_;simp only[Zah];refine Zsi (R:=fun v w'=>v=.int .i64 0/\Goes K n Od room w0 mb (fs++[(nxi,Zct F0 F1 F2)]) (nxi+1) (NoW (M+Zes n kid 3+(2^n-1))) o3 w3 w') (by go_simp) (by go_simp) ((HD.out w3.drew _ (Zai w3 1) rfl).mono (fun e w' he=>?_)) ?_
   ·
    obtain⟨rfl,q2⟩:=he;have hb:=HBT3.out.go q2;obtain⟨g',cp',ev,hc3⟩:=hb.cellsN (i:=3) rfl (by omega);cases ev;exact⟨_,rfl,⟨hc3 0 (by omega),hc3 1 (by omega),hc3 2 (by omega)⟩,rfl,q2⟩
   rintro v w4-⟨rfl,q2⟩;have HFN:=Hd (HQ.out nxi _ w4 _ HF.out (by omega) (by have:=HEP.out;have:=HCK.out 3;omega) (HBT3.out.go q2).goes);clear q2 HD;simp only[Zah]
   iterate 1
    refine Zip true (by go_simp) ?_;apply Exists.intro;refine⟨fun hgd w' hw=>?_,?_⟩
    ·
     obtain⟨h1,h2,h3⟩:=hw;go_simp;rfl
    simp only[Zah]
   iterate 3
    refine Zar rfl ?_;apply Exists.intro;refine⟨fun w' hw=>?_,?_⟩
    ·
     obtain⟨h1,h2,h3⟩:=hw;go_simp;rfl
    simp only[Zah]
   refine Zfp ?_;go_wp2_with fail;exact HFN.out
end
open Go.RowKit
section
variable {K:Law} {n:Nat} {Od:List Nat->Prop} {room:Nat} {w0:World} {mb:Nat}
theorem Zni (hK:Zbp K):∀ (e:ExT) (x:Value) (fs:List (Int×BF)) (nx:Int) (w:World) (o:Own) (m:ManD) (V:Nat->BF) (M:Nat),SatE K n Od room w0 mb fs nx w o m V->m.waits=[]/\m.d.pool.many<=M->B2 fs->Zo8 e->(∀ v∈Zbe e,v<(n:Int))->Zaq w0 e x->nx+3*e.size<549755813000->M+e.size*2^n<=room ->
 Calls Tryz.prog 70 #[.pointer (some ⟨mb,0,none⟩),x] w fun y w'=>∃ k:Int,y=.returned (.tuple #[.int .i64 k,.bool true])/\k+3<=nx+3*e.size/\Goes K n Od room w0 mb (fs++[(k,fnT e)]) (k+1) (NoW (M+Zhe n e.size)) o w w'
 | .nil,x,fs,nx,w,o,m,V,M,_,_,_,hv,_,_,_,_=>hv.elim
 | .mk op v nk kid,x,fs,nx,w,o,m,V,M,hsat,hwt,hb2,hval,hvars,h,hnx,hroom=>by
   unfold Zaq at h;obtain⟨a,c,rfl,h2,h3,h4,h5⟩:=h;obtain⟨v1,v2,v3,v4,v5,v6⟩:=hval;obtain⟨k1,k2,k3⟩:=Zum v1;have hblk:(w.alloc (.cells #[.int .i64 op,.int .i64 v,.slice a nk c] 86)).heap[w.heap.size]?=some (.cells #[.int .i64 op,.int .i64 v,.slice a nk c] 86 (0,0)):=heap_alloc_new _ _;have hb1:=Zad w (.cells #[.int .i64 op,.int .i64 v,.slice a nk c] 86);have hep:(ExT.mk op v nk kid).size*2^n=2^n+(sumN nk fun i=>(kid i).size)*2^n:=by
    show (1+sumN nk fun i=>(kid i).size)*2^n=_
    rw[Nat.add_mul,Nat.one_mul]
   have hctx:BCtx K n Od room w0 mb fs nx M w (w.alloc (.cells #[.int .i64 op,.int .i64 v,.slice a nk c] 86)) o m V op v nk kid a c (ExT.mk op v nk kid) (fun y w'=>∃ k:Int,y=.returned (.tuple #[.int .i64 k,.bool true])/\k+3<=nx+3*(ExT.mk op v nk kid).size/\Goes K n Od room w0 mb (fs++[(k,fnT (ExT.mk op v nk kid))]) (k+1) (NoW (M+Zhe n (ExT.mk op v nk kid).size)) o w w'):=by
    refine⟨Hd hK,Hd h5,Hd fun i hi=>?_,Hd rfl,Hd (Zq3 fun i=>(kid i).size_pos),Hd fun i x fs' nx' W o' m' V' M' hi q1 q2 q3 q4 q5 q6=>Zni hK (kid i) x fs' nx' W o' m' V' M' q1 q2 q3 (v6 i hi) (fun u hu=>hvars u (by unfold Zbe;exact List.mem_append_right _ (Zkg hi hu))) q4 q5 q6,Hd rfl,Hd (Goes.refl (hsat.below hb1) hwt),Hd (hsat.below hb1),Hd hwt,Hd hb2,Hd ?_,Hd fun i hi=>?_,Hd (Zno n kid),Hd fun i=>Zhs n (kid i).size_pos,Hd ⟨hep,Zhs n (ExT.size_pos _)⟩,Hd hroom,by omega,hnx,ExT.size_pos _,by simp,by rw[cell_of_row _ _ 0 _ _ _ hblk];rfl,by rw[cell_of_row _ _ 1 _ _ _ hblk];rfl,by rw[cell_of_row _ _ 2 _ _ _ hblk];rfl,hsat.lt.none (Nat.le_refl _),?_,Nat.pow_pos (by omega),h2,h3⟩
    ·
     have:=Zed (f:=fun i=>(kid i).size) hi
     show _<=1+sumN nk fun i=>(kid i).size
     omega
    ·
     rintro k F W M' rfl hk hm g;exact⟨k,rfl,hk,(g.more hm).after (Zcr hb1 o)⟩
    ·
     have h1:=Zed (f:=fun i=>(kid i).size) hi;have h2:=Nat.mul_le_mul_right (2^n) h1;rw[Nat.add_mul] at h2;omega
    ·
     have:=hsat.chg.size;simp;omega
   rcases(show op=1\/op=2\/op=3\/(op=5\/op=6\/op=7)\/op=4\/(op=8\/op=9)\/op=10 by omega) with h1|h1|h1|h1|h1|h1|h1
   ·
    exact Zrm hctx h1 (by subst h1;exact Zj8 (.inl rfl) v nk kid)
   ·
    exact Zpj hctx h1 (by subst h1;exact Zj8 (.inr rfl) v nk kid)
   ·
    have e1:=v2 h1;have e2:=hvars v (by unfold Zbe;rw[if_pos h1];simp);obtain⟨u,rfl⟩:∃ u:Nat,v=u:=⟨v.toNat,by omega⟩;exact Ztn hctx (u:=u) (by omega) h1 rfl (by subst h1;exact Zt7 u nk kid)
   ·
    exact Ztj hctx h1 (Zt4 h1 v nk kid)
   ·
    have e:nk=1:=by subst h1;simp[Zbt] at v4 v5;omega
    exact Ztl hctx h1 e (by subst h1;subst e;exact Zt6 v kid)
   ·
    have e:nk=2:=by rcases h1 with rfl|rfl<;>(simp[Zbt] at v4 v5;omega)
    exact Ztm hctx h1 e (by subst e;exact Zmf h1 v kid)
   ·
    have e:nk=3:=by subst h1;simp[Zbt] at v4 v5;omega
    exact Ztk hctx h1 e (by subst h1;subst e;exact Zt5 v kid)
end
open Go.RowKit
theorem Za4.chgX {C:Nat->Prop} {o o':Own} {w w':World} {a:Option Addr} {zs:List Int} (h:Za4 w a zs) (hc:ChgX C o o' w w') (hn:0<zs.length->∀ x,a=some x->o x.block=none/\¬ C x.block):Za4 w' a zs :=
 ⟨h.len,fun k hk=>by
  obtain⟨b,off,rfl,c⟩:=h.cells k hk;have:=hn (by omega) _ rfl;exact⟨b,off,rfl,hc.cell c this.1 this.2⟩⟩
def ArrI (K:Law) (n room:Nat) (w0:World) (mb:Nat) (fs:List (Int×BF)) (nx:Int) (o:Own) (w:World) (m:ManD) (P:List Nat->Prop) (W:World):Prop :=
 ∃ o' m' V',SatE K n P room w0 mb fs nx W o' m' V'/\m'.waits=m.waits/\m'.calls=m.calls/\ChgX NoB o o' w W/\(m'.d.pool.many<=m.d.pool.many\/m'.d.pool.many<=fs.length*2^n)
section
variable {K:Law} {n:Nat} {Od:List Nat->Prop} {room:Nat} {w0 w w':World} {mb:Nat} {fs:List (Int×BF)} {nx:Int} {o o':Own} {m m':ManD} {V V':Nat->BF} {P:List Nat->Prop} {W W':World}
theorem ArrI.below (h:ArrI K n room w0 mb fs nx o w m P W) (hb:Below W.heap.size W W'):ArrI K n room w0 mb fs nx o w m P W':=by
 obtain⟨o',m',V',h1,h2,h3,h4,h5⟩:=h;exact⟨o',m',V',h1.below hb,h2,h3,h4.trans (Zcr hb o') (fun _ _ e=>e),h5⟩
theorem ArrI.imp (h:ArrI K n room w0 mb fs nx o w m P W) {P':List Nat->Prop} (hP:∀ l,l.length=n->P l->P' l):ArrI K n room w0 mb fs nx o w m P' W:=by
 obtain⟨o',m',V',h1,h2,h3,h4,h5⟩:=h;exact⟨o',m',V',h1.withOd (hP _ h1.vars h1.od),h2,h3,h4,h5⟩
theorem ArrI.swap (h:ArrI K n room w0 mb fs nx o w m P W) {k:Nat} (hk1:k+1<n) (hn:nx<=549755813888) (hr:3*(fs.length*2^n)<=room) {P':List Nat->Prop} (hP:∀ l,l.length=n->P l->P' (exL l k)) :
 Calls Tryz.prog 138 #[.pointer (some ⟨mb,0,none⟩),.int .i64 k] W fun e w'=>e=.returned (.int .i64 0)/\ArrI K n room w0 mb fs nx o w m P' w':=by
 obtain⟨o',m',V',h1,h2,h3,h4,h5⟩:=h;refine(Zsg h1 hk1 hn hr).mono ?_;rintro e w' ⟨rfl,o2,m2,V2,s⟩;refine⟨rfl,o2,m2,V2,s.sat.withOd ?_,s.waits.trans h2,s.calls.trans h3,h4.trans (ChgX.of_chg s.chg NoB) (fun _ _ e=>e),.inr (s.sat.few s.dead)⟩;rw[s.sat.od,Zvu];exact hP _ h1.vars h1.od
theorem Zph (h:SatE K n Od room w0 mb fs nx w o m V) (hn:nx<=549755813888) (hr:3*(fs.length*2^n)<=room) {a:Option Addr} {c:Nat} {zs:List Int} (hz:Za4 w a zs) (hno:0<zs.length->∀ x,a=some x->o x.block=none) (hp:zs.length=0\/Zym zs n) :
 Calls Tryz.prog 69 #[.pointer (some ⟨mb,0,none⟩),.slice a zs.length c] w fun x w'=>x=.returned (.bool true)/\ArrI K n room w0 mb fs nx o w m (fun l=>∀ j,j<zs.length->((l.getD j 0:Nat):Int)=at0 zs j) w':=by
 have hlen:=hz.len;have hn64:n<=64:=by have:=h.ok.store.small;rw[h.vars] at this;exact this
 have HZ:Hid (∀ W P,ArrI K n room w0 mb fs nx o w m P W->Za4 W a zs):=Hd fun W P ⟨o',m',V',_,_,_,h4,_⟩=>hz.chgX h4 fun h0 x hx=>⟨hno h0 x hx,fun e=>e⟩
 have HORD:Hid (∀ W P,ArrI K n room w0 mb fs nx o w m P W->Calls Tryz.prog 45 #[.pointer (some ⟨mb,0,none⟩)] W fun x w'=>∃ (a:Option Addr) (c:Nat) (l:List Nat),x=.returned (.slice a n c)/\l.length=n/\Za4 w' a (l.map Int.ofNat)/\P l/\(∀ v,v<n->∃ i,i<n/\l.getD i 0=v)/\(∀ i j,i<n->j<n->l.getD i 0=l.getD j 0->i=j)/\Below W.heap.size W w'/\ArrI K n room w0 mb fs nx o w m (fun l'=>l'=l) w'):=by
  refine Hd fun W P hA=>?_
  obtain⟨o',m',V',h1,h2,h3,h4,h5⟩:=hA;refine(Zog h1.is h1.lt (by rw[h1.vars];exact hn64)).mono ?_;rintro x w' ⟨v,rfl,hv,hb⟩;obtain⟨av,cv,rfl,hva,_⟩:=hv.sliceIs (by simp[h1.vars];omega);refine⟨av,cv,m'.d.vars,by rw[List.length_map,h1.vars],h1.vars,hva,h1.od,fun v hv=>?_,fun i j hi hj e=>?_,hb,o',m',V',(h1.below hb).withOd rfl,h2,h3,h4.trans (Zcr hb o') (fun _ _ e=>e),h5⟩
  ·
   have:=h1.ok.store.mem (v:=v) (by rw[h1.vars];exact hv);rw[h1.vars] at this;exact this
  ·
   exact h1.ok.store.inj (by rw[h1.vars];exact hi) (by rw[h1.vars];exact hj) e
 have HSW:Hid (∀ W P,ArrI K n room w0 mb fs nx o w m P W->∀ (k:Nat),k+1<n->∀ P':List Nat->Prop,(∀ l,l.length=n->P l->P' (exL l k))->Calls Tryz.prog 138 #[.pointer (some ⟨mb,0,none⟩),.int .i64 k] W fun e w'=>e=.returned (.int .i64 0)/\ArrI K n room w0 mb fs nx o w m P' w') :=
  Hd fun W P hA k hk P' hP=>hA.swap hk hn hr hP
 have HP:=Hd hp;obtain⟨R,hR⟩:∃ R:(List Nat->Prop)->World->Prop,R=ArrI K n room w0 mb fs nx o w m:=⟨_,rfl⟩;have HR0:Hid (R (fun l=>∀ j,j<0->((l.getD j 0:Nat):Int)=at0 zs j) w):=Hd (by rw[hR];exact⟨o,m,V,h.withOd (fun j hj=>by omega),rfl,rfl,ChgX.of_below (Below.refl _ _) o NoB,.inl (Nat.le_refl _)⟩);have HRB:Hid (∀ P W W',R P W->Below W.heap.size W W'->R P W'):=Hd (by rw[hR];intro P W W' h1 h2;exact h1.below h2);have HRM:Hid (∀ P P' W,R P W->(∀ l,l.length=n->P l->P' l)->R P' W):=Hd (by rw[hR];intro P P' W h1 h2;exact h1.imp h2);rw[<- hR] at HZ HORD HSW ⊢;clear h hz hno hp hr hn hR
 go_enter Tryz.func69,Tryz.ntmps69
 go_wp2_with fail
 go_loopw [5,6,7] (fun s5 s6 s7 wr=>∃ i:Nat,i<=zs.length/\s5=.int .i64 i/\Hid (R (fun l=>∀ j,j<i->((l.getD j 0:Nat):Int)=at0 zs j) wr)) (fun s5 _ _ _=>zs.length-(intOf s5).toNat)
 case atStart=>exact⟨0,Nat.zero_le _,rfl,HR0⟩
 case round =>
  obtain⟨i,hi,rfl,HR⟩:=hrel
  by_cases hlt:i<zs.length
  ·
   have hiz:(i:Int)<zs.length:=by omega
   have hperm:Zym zs n:=by
    rcases HP.out with e|e
    ·
     omega
    ·
     exact e
   have hzn:zs.length=n:=hperm.len;obtain⟨zi,hzi,ezi⟩:=hperm.lt i (by omega);have HOR:=Hd (HORD.out wr _ HR.out);have HINJ:=Hd hperm.inj;clear hperm;go_wp2_with fail;refine HOR.out.mono ?_;rintro x w3 ⟨av,cv,l,rfl,hll,hla,hod,hmem,hinj,hb3,hr3⟩;obtain⟨p,hpn,hpe⟩:=hmem zi hzi;have hip:i<=p:=by
    rcases Nat.lt_or_ge p i with h|h
    ·
     exfalso;have e1:=hod p h;rw[hpe,<- ezi] at e1;have:=HINJ.out i p (by omega) hpn e1;omega
    ·
     exact h
   have HLA:=Hd hla;have HOD:=Hd hod;have HPE:=Hd hpe;have HIJ:=Hd hinj;have HR3:=Hd hr3;have hnn:((n:Int) != (zs.length:Int))=false:=by rw[hzn];simp
   obtain⟨bz,oz,ea,cz⟩:=(HZ.out w3 _ hr3).cells i hlt;subst ea;rw[ezi] at cz;have EZI:=Hd ezi;clear hla hod hpe hinj hr3 hmem HOR hb3 ezi;go_wp2_with fail
   go_loopw [7] (fun s7 wr=>∃ q:Nat,i<=q/\q<=p/\s7=.int .i64 q/\Hid (Below w3.heap.size w3 wr)) (fun s7 _=>p-(intOf s7).toNat)
   case atStart=>exact⟨i,Nat.le_refl _,hip,rfl,Hd (Below.refl _ _)⟩
   case round =>
    rename World=>wq
    obtain⟨q,hq1,hq2,rfl,HBQ⟩:=hrel;have hqn:(q:Int)<(n:Int):=by omega
    have hqn':q<n:=by omega
    obtain⟨bv,ov,rfl,cq⟩:=(HLA.out.below HBQ.out).cells q (by rw[List.length_map,hll];exact hqn');have cz':=(HBQ.out.cell (p:=⟨bz,oz+i,none⟩) (Zaa cz)).trans cz;rw[Zyq (by rw[hll];exact hqn')] at cq;obtain⟨y,hy⟩:∃ y,y=l.getD q 0:=⟨_,rfl⟩;rw[<- hy] at cq;have HY:=Hd hy;clear hy;go_upto_region 8 with fail;refine Zap (fun W:World=>W.cell? ⟨bv,ov+q,none⟩=some (.int .i64 (y:Nat))/\W.cell? ⟨bz,oz+i,none⟩=some (.int .i64 (zi:Nat))/\Hid (Below w3.heap.size w3 W)) false 15
     [(0,false),(1,false),(2,false),(3,false),(4,false),(5,false),(6,false),(7,false),(8,false),(9,false),(10,false),(11,false),(12,false),(13,false),(14,false)] (by kernel_rfl) (by kernel_rfl) ⟨cq,cz',Hd (HBQ.out.trans ((Zai wq 1).mono HBQ.out.size))⟩ ?_
    simp only[planned,Zdl]
    iterate 5
     refine Zar rfl ?_;apply Exists.intro;refine⟨fun w' hw=>?_,?_⟩
     ·
      obtain⟨h1,h2,_⟩:=hw;go_simp;rfl
     simp only[Zah]
    iterate 9
     refine Zip true (by go_simp) ?_;apply Exists.intro;refine⟨fun hgd w' hw=>?_,?_⟩
     ·
      obtain⟨h1,h2,_⟩:=hw;go_simp;rfl
     simp only[Zah]
    iterate 1
     refine Zar rfl ?_;apply Exists.intro;refine⟨fun w' hw=>?_,?_⟩
     ·
      obtain⟨h1,h2,_⟩:=hw;go_simp;rfl
     simp only[Zah]
    refine Zfp ?_
    by_cases hqp:q<p
    ·
     have hne:((y:Int) != (zi:Int))=true:=by
      simp only[bne_iff_ne,ne_eq];intro e;have e2:l.getD q 0=l.getD p 0:=by rw[HPE.out,<- HY.out];omega
      have:=HIJ.out q p hqn' hpn e2;omega
     go_wp2_with fail;go_roundw
     case rel=>exact⟨q+1,by omega,by omega,by go_num,Hd (HBQ.out.trans ((Zai wq 1).mono HBQ.out.size))⟩
     case measure=>simp[intOf];omega
    ·
     obtain rfl:q=p:=by omega
     have hne:((y:Int) != (zi:Int))=false:=by
      have:y=zi:=by rw[HY.out,HPE.out]
      rw[this];simp
     have hqe:((q:Int) == (n:Int))=false:=by simp;omega
     have HR4:Hid (R (fun l'=>(∀ j,j<i->((l'.getD j 0:Nat):Int)=at0 zs j)/\l'.getD q 0=zi) wq.drew):=Hd (by
      have h1:=HRB.out _ _ _ HR3.out (HBQ.out.trans ((Zai wq 1).mono HBQ.out.size));exact HRM.out _ _ _ h1 fun l' _ e=>by subst e;exact⟨HOD.out,HPE.out⟩)
     rw[hne];clear HR3 HBQ HLA cq cz cz' hne;go_wp2_with fail
     go_loopw [4,7] (fun s4 s7 wr=>∃ q:Nat,i<=q/\q<n/\s7=.int .i64 q/\Hid (R (fun l'=>(∀ j,j<i->((l'.getD j 0:Nat):Int)=at0 zs j)/\l'.getD q 0=zi) wr)) (fun _ s7 _=>(intOf s7).toNat)
     case atStart=>exact⟨q,hq1,hqn',rfl,HR4⟩
     case round =>
      clear HR4 HY HPE
      rename World=>wt
      obtain⟨t,ht1,ht2,rfl,HRT⟩:=hrel
      by_cases hti:i<t
      ·
       obtain⟨t',rfl⟩:∃ t',t=t'+1:=⟨t-1,by omega⟩;have htz:((t'+1:Nat):Int)>i:=by omega
       have HS:=Hd (HSW.out wt _ HRT.out t' ht2 (fun l'=>(∀ j,j<i->((l'.getD j 0:Nat):Int)=at0 zs j)/\l'.getD t' 0=zi) (fun l' hl ⟨g1,g2⟩=>⟨fun j hj=>by rw[Yac (by omega) (by omega)];exact g1 j hj,by rw[Zwj (by omega)];exact g2⟩));have hsub:((t'+1:Nat):Int)-1=(t':Nat):=by omega
       go_upto_region 14 with fail;go_wp2_with fail;refine HS.out.mono ?_;rintro x w5 ⟨rfl,hr5⟩;have HR5:=Hd hr5;clear hr5 HS HRT;go_wp2_with fail;go_roundw
       case rel=>exact⟨t',by omega,by omega,by go_num,HR5⟩
       case measure=>simp[intOf]
      ·
       obtain rfl:t=i:=by omega
       have HR6:Hid (R (fun l=>∀ j,j<t+1->((l.getD j 0:Nat):Int)=at0 zs j) wt):=Hd (by
        refine HRM.out _ _ _ HRT.out fun l' _ ⟨g1,g2⟩ j hj=>?_
        rcases Nat.lt_or_ge j t with h|h
        ·
         exact g1 j h
        ·
         obtain rfl:j=t:=by omega
         rw[g2,EZI.out])
       have htz:¬ (t:Int)>t:=by omega
       go_wp2_with fail;go_roundw
       case rel=>exact⟨t+1,by omega,by go_num,HR6⟩
       case measure=>simp[intOf];omega
  ·
   have he:i=zs.length:=by omega
   have hiz:¬ (i:Int)<zs.length:=by omega
   go_wp2_with fail;go_ret;exact⟨rfl,by rw[<- he];exact HR.out⟩
end
open Go.RowKit
theorem Zsa (i n:Nat) (hi:i<=1048576) (hn:n<=16) (w:World):Calls Tryz.prog 129 #[.int .i64 i,.int .i64 n] w fun x w'=>∃ v,x=.returned v/\OwnB w' w.heap.size v (Zdz i n)/\Below w.heap.size w w':=by
 go_enter Tryz.func129,Tryz.ntmps129
 go_wp2_with fail
 go_loopw [0,5,6] (fun s0 s5 s6 wr=>∃ j q:Nat,j<=n/\q<=1048576/\s6=.int .i64 j/\s0=.int .i64 q/\Hid (i/2^j=q)/\OwnB wr w.heap.size s5 (Zdz i j)/\w.heap.size<=wr.heap.size/\Below w.heap.size w wr) (fun _ _ s6 _=>n-(intOf s6).toNat)
 case atStart=>exact⟨0,i,Nat.zero_le _,hi,rfl,rfl,Hd (by simp),Zfr _ w _ (Nat.le_refl _),by simp,Zad w _⟩
 case round =>
  obtain⟨j,q,hj,hq,rfl,rfl,HQ,hown,hsz,hbel⟩:=hrel
  by_cases hlt:j<n
  ·
   have HB:Hid (((q:Int).tmod 2 == 1)=bitB i j):=by
    refine Hd ?_;rw[tmod2];unfold bitB;rw[HQ.out]
   have HOWN:=Hd hown;have HBEL:=Hd hbel;clear hown hbel;go_wp2_with (at_builtin;refine Zcx Zhu _ rfl _ _ rfl w.heap.size _ (Zbz (Zdz i j)) _ rfl rfl rfl rfl rfl (by exact HOWN.out) (by simp[Zbz,Zew];omega) hsz ?_;intro v1 w1 hown1 e1 e2 e3 e4 hk1);go_roundw
   case rel =>
    refine⟨j+1,q/2,by omega,by omega,by go_num,by go_num,Hd ?_,?_,by omega,Zhq HBEL.out HOWN.out e1 e2 e3 e4 hk1 hsz⟩
    ·
     rw[Nat.pow_succ,<- Nat.div_div_eq_div_mul,HQ.out]
    ·
     rw[Zlf];unfold OwnB;rw[Zhb,<- HB.out];exact hown1
   case measure=>simp[intOf];omega
  ·
   have he:j=n:=by omega
   subst he;have HOWN:=Hd hown;have HBEL:=Hd hbel;clear hown hbel;go_wp2_with fail;go_ret;exact⟨_,rfl,HOWN.out,HBEL.out⟩
theorem Zxg {T ST:TypeId} {z:Value} {b:Nat} (E:Zrc T ST z b) (ty:TypeId) (wr:World) (base:Nat) (v:Value) (xs:List Value) (y:Value) (hy:y.oneCell'=true) (hown:OwnC T wr base v xs) (hlen:xs.length<1099511627776) (hbase:base<=wr.heap.size) :
 ∃ v' w',(Builtin.append_ #[ST,ST] ty #[v,.slice (some ⟨wr.heap.size,0,none⟩) 1 1]).run Tryz.prog (wr.alloc (.cells #[y] T))=.ok v' w' /\
  OwnC T w' base v' (xs++[y])/\w'.os=wr.os/\w'.tape=wr.tape/\w'.output=wr.output/\wr.heap.size<=w'.heap.size/\Zdv v v' wr w':=by
 obtain⟨i,hi,hz,hsz,hby⟩:=info_parts E.info;have hsm:=E.small;obtain⟨v',w',hr,h1,h2,_,hloc⟩:=run_append_own_at (P:=Tryz.prog) (wr.alloc (.cells #[y] T)) base ST ty T i z 1 b E.under hi hz hsz hby (by rw[E.one];rfl) (by decide)
  v xs.length xs (hown.alloc _) ⟨wr.heap.size,0,none⟩ 1 1 [y] rfl (cell_one_new _ _ _) (by intro u hu;simp at hu;subst hu;exact hy) (by unfold maxLen;omega) (by
   have h1:(xs.length+1)*b<=1099511627776*100:=Nat.mul_le_mul (by omega) hsm;omega) (by simp;omega)
 refine⟨v',w',hr,?_,h2.os,h2.tape,h2.output,?_,⟨Zd5 h2,hloc.imp id fun e=>⟨_,e,by simp⟩⟩⟩
 ·
  unfold OwnC;rw[List.length_append];exact h1
 ·
  have:=h2.size;simp at this;omega
theorem OwnC.lower {T:TypeId} {w:World} {base b:Nat} {v:Value} {xs:List Value} (h:OwnC T w base v xs) (hb:b<=base):OwnC T w b v xs:=by
 refine⟨h.1,?_⟩;rcases h.2 with hn|⟨g,cap,cur,rfl,hb',rest⟩
 ·
  exact .inl hn
 ·
  exact .inr ⟨g,cap,cur,rfl,by omega,rest⟩
theorem Ze4 (e:ExT) (x:Value) (n:Nat) (hn:n<=12) (w:World) (hs:e.size<=4096) (hok:okT e 1) (h:Zaq w e x) :
 Calls Tryz.prog 58 #[x,.int .i64 n] w fun y w'=>∃ v,y=.returned v/\OwnB w' w.heap.size v (tabB n (fnT e))/\Below w.heap.size w w':=by
 have HCH:Hid (∀ W,Below w.heap.size w W->∀ u,u=x->Calls Tryz.prog 56 #[u] W fun y w'=>y=.returned (.int .i64 0)/\Below W.heap.size W w'):=Hd fun W hb u hu=>by
  subst hu
  exact(Zhc e _ W hs (h.below hb)).mono (by
   rintro y w' ⟨err,rfl,h1,h2⟩;rw[h1.2 hok];exact⟨rfl,h2⟩)
 have HVAL:Hid (∀ W,Below w.heap.size w W->∀ u,u=x->∀ (ls:List Bool) al cl,Zfz W al ls->Calls Tryz.prog 128 #[u,.slice al ls.length cl] W fun y w'=>y=.returned (.bool (fnT e (Zc7 ls)))/\Below W.heap.size W w'):=Hd fun W hb u hu ls al cl hl=>by
  subst hu;exact Zkv ls al cl e _ W hok.valid (h.below hb) hl
 have HLIST:Hid (∀ j,j<=1048576->∀ W,Calls Tryz.prog 129 #[.int .i64 (j:Nat),.int .i64 n] W fun x w'=>∃ v,x=.returned v/\OwnB w' W.heap.size v (Zdz j n)/\Below W.heap.size W w'):=Hd fun j hj W=>Zsa j n hj (by omega) W
 have HS:Hid (∀ k,k<=n->2^k<=4096):=Hd fun k hk=>Nat.le_trans (Nat.pow_le_pow_right (by omega) (show k<=12 by omega)) (by decide)
 obtain⟨x0,x1,x2,hx,o0,o1,o2⟩:=h.agg;subst hx;obtain⟨w1,hw1⟩:∃ w1,w1=w.alloc (.cells #[x0,x1,x2] 86):=⟨_,rfl⟩;have HW1:Hid (_=w1):=Hd hw1.symm;have HB1:Hid (Below w.heap.size w w1):=by rw[hw1];exact Hd (Zad _ _)
 have hblk:w1.heap[w.heap.size]?=some (.cells #[x0,x1,x2] 86 (0,0)):=by rw[hw1];exact heap_alloc_new _ _
 have hs1:w1.heap.size=w.heap.size+1:=by rw[hw1];simp
 have d0:w1.cell? ⟨w.heap.size,0,none⟩=some x0:=by rw[cell_of_row _ _ 0 _ _ _ hblk];rfl
 have d1:w1.cell? ⟨w.heap.size,1,none⟩=some x1:=by rw[cell_of_row _ _ 1 _ _ _ hblk];rfl
 have d2:w1.cell? ⟨w.heap.size,2,none⟩=some x2:=by rw[cell_of_row _ _ 2 _ _ _ hblk];rfl
 obtain⟨L,hL⟩:∃ L,L=2^n:=⟨_,rfl⟩;have HLL:=Hd hL;obtain⟨G,hG⟩:∃ G:Nat->Bool,G=fun i=>fnT e (Zc7 (Zdz i n)):=⟨_,rfl⟩
 have HG:Hid (∀ i,fnT e (Zc7 (Zdz i n))=G i):=Hd fun i=>by rw[hG]
 have HT:Hid (tabB n (fnT e)=(List.range L).map G):=Hd (by rw[hL,hG];rfl);have hL4:L<=4096:=by rw[hL];exact HS.out n (Nat.le_refl _)
 rw[HT.out];clear h hw1 hblk hG hL
 go_enter Tryz.func58,Tryz.ntmps58
 go_upto_region 1 with fail;rw[HW1.out];have hn0:¬ (n:Int)<0:=by omega
 have hn12:¬ (n:Int)>12:=by omega
 go_wp2_with fail;refine(HCH.out _ HB1.out _ rfl).mono ?_;rintro y w2 ⟨rfl,hb2⟩;have HB2:=Hd hb2;clear hb2 HCH;go_wp2_with fail
 go_loopw [5,6] (fun s5 s6 wr=>∃ k p:Nat,k<=n/\s5=.int .i64 p/\s6=.int .i64 k/\Hid (wr=w2)/\Hid (2^k=p)) (fun _ s6 _=>n-(intOf s6).toNat)
 case atStart=>exact⟨0,1,Nat.zero_le _,rfl,rfl,Hd rfl,Hd rfl⟩
 case round =>
  obtain⟨k,p,hk,rfl,rfl,HWR,HP⟩:=hrel;have hpb:p<=4096:=by rw[<- HP.out];exact HS.out k hk
  by_cases hlt:k<n
  ·
   go_wp2_with fail;go_roundw
   case rel=>exact⟨k+1,2*p,by omega,by go_num,by go_num,HWR,Hd (by rw[Nat.pow_succ,HP.out];omega)⟩
   case measure=>simp[intOf];omega
  ·
   obtain rfl:k=n:=by omega
   obtain rfl:p=L:=by rw[<- HP.out,HLL.out]
   have hw2:=HWR.out;subst hw2;obtain⟨w3,hw3⟩:∃ w3,w3=wr.alloc (.cells #[] 4):=⟨_,rfl⟩;have HW3:Hid (_=w3):=Hd hw3.symm;have hb3:Below w1.heap.size w1 w3:=by rw[hw3];exact HB2.out.trans ((Zad _ _).mono HB2.out.size)
   have HOWN:Hid (OwnB w3 w1.heap.size (.slice (some ⟨wr.heap.size,0,none⟩) 0 0) []):=by rw[hw3];exact Hd (Zfr _ _ _ HB2.out.size)
   have HB3:=Hd hb3;have hs3:w1.heap.size<=w3.heap.size:=hb3.size;clear hw3 hb3 hlt;go_upto_region 9 with fail;rw[HW3.out];go_wp2_with fail
   go_loopw [7,8] (fun s7 s8 wr=>∃ j:Nat,j<=p/\s8=.int .i64 j/\Hid (OwnB wr w1.heap.size s7 ((List.range j).map G))/\Hid (Below w1.heap.size w1 wr)/\w1.heap.size<=wr.heap.size) (fun _ s8 _=>p-(intOf s8).toNat)
   case atStart=>exact⟨0,Nat.zero_le _,rfl,HOWN,HB3,hs3⟩
   case round =>
    clear HOWN HB3 hs3 HW3 HWR HB2
    rename World=>wq
    obtain⟨j,hj,rfl,HOW,HBEL,hsz⟩:=hrel
    by_cases hlt:j<p
    ·
     have e0:=(HBEL.out.cell (p:=⟨w.heap.size,0,none⟩) (Zaa d0)).trans d0;have e1:=(HBEL.out.cell (p:=⟨w.heap.size,1,none⟩) (Zaa d1)).trans d1;have e2:=(HBEL.out.cell (p:=⟨w.heap.size,2,none⟩) (Zaa d2)).trans d2;have HL:=Hd (HLIST.out j (by omega) wq.drew);go_upto_region 12 with fail;refine Zap (fun W:World=>W.cell? ⟨w.heap.size,0,none⟩=some x0/\W.cell? ⟨w.heap.size,1,none⟩=some x1/\W.cell? ⟨w.heap.size,2,none⟩=some x2) false 9
      [(0,false),(1,false),(2,false),(3,false),(4,true),(5,true),(6,true),(7,true),(8,false)] (by kernel_rfl) (by kernel_rfl) ⟨e0,e1,e2⟩ ?_
     simp only[planned,Zdl]
     iterate 4
      refine Zar rfl ?_;apply Exists.intro;refine⟨fun w' hw=>?_,?_⟩
      ·
       obtain⟨h1,h2,h3⟩:=hw;go_simp;rfl
      simp only[Zah]
     refine Zb1 (R:=fun v w'=>Ze0 w' v (Zdz j k)/\Below wq.heap.size wq w') rfl (by go_simp) (HL.out.mono (fun e w' he=>?_)) ?_
     ·
      obtain⟨v,rfl,q1,q2⟩:=he;have q3:Below wq.heap.size wq w':=(Zai wq 1).trans (q2.mono (Zai wq 1).size);exact⟨v,rfl,⟨(q3.cell (p:=⟨w.heap.size,0,none⟩) (Zaa e0)).trans e0,(q3.cell (p:=⟨w.heap.size,1,none⟩) (Zaa e1)).trans e1,(q3.cell (p:=⟨w.heap.size,2,none⟩) (Zaa e2)).trans e2⟩,q1.boolsIs (by rw[Zew];omega),q3⟩
     rintro v w4 ⟨f0,f1,f2⟩ ⟨⟨av,cv,rfl,hbs,-⟩,hb4⟩;have HBS:=Hd hbs;have HB4:=Hd hb4;clear hbs hb4 e0 e1 e2 HL;simp only[Zah];refine Zb1 (R:=fun v w'=>v=.bool (G j)/\Below w4.heap.size w4 w') rfl (by go_simp) ((HVAL.out w4 (HB1.out.trans ((HBEL.out.trans (HB4.out.mono HBEL.out.size)).mono HB1.out.size)) _ rfl (Zdz j k) av cv HBS.out).mono (fun e w' he=>?_)) ?_
     ·
      obtain⟨rfl,q3⟩:=he;exact⟨_,rfl,⟨(q3.cell (p:=⟨w.heap.size,0,none⟩) (Zaa f0)).trans f0,(q3.cell (p:=⟨w.heap.size,1,none⟩) (Zaa f1)).trans f1,(q3.cell (p:=⟨w.heap.size,2,none⟩) (Zaa f2)).trans f2⟩,by rw[HG.out],q3⟩
     rintro v w5 ⟨g0,g1,g2⟩ ⟨rfl,hb5⟩;obtain⟨y,hy⟩:∃ y,y=G j:=⟨_,rfl⟩;rw[<- hy];have HYY:Hid (Zbz ((List.range (j+1)).map G)=Zbz ((List.range j).map G)++[.bool y]):=Hd (by rw[Zlt,Zhb,hy]);have hbq:=HB4.out.trans (hb5.mono HB4.out.size);have HB5:=Hd (HBEL.out.trans (hbq.mono HBEL.out.size));have HOW5:=Hd (HOW.out.below hbq);have hsz5:w1.heap.size<=w5.heap.size:=Nat.le_trans hsz hbq.size;clear hb5 hbq f0 f1 f2 hy HBS HB4;simp only[Zah];have hbn:=Zad w5 (.cells #[.bool y] 4);refine Zh2 (v:=.slice (some ⟨w5.heap.size,0,none⟩) 1 1) (w':=w5.alloc (.cells #[.bool y] 4)) rfl (by go_simp) ⟨(hbn.cell (p:=⟨w.heap.size,0,none⟩) (Zaa g0)).trans g0,(hbn.cell (p:=⟨w.heap.size,1,none⟩) (Zaa g1)).trans g1,(hbn.cell (p:=⟨w.heap.size,2,none⟩) (Zaa g2)).trans g2⟩ ?_;simp only[Zah];obtain⟨v6,w6,hr6,hown6,q1,q2,q3,q4,hk6⟩:=Zxg Zhu 34 w5 w1.heap.size _ (Zbz ((List.range j).map G)) (.bool y) rfl HOW5.out (by simp[Zbz];omega) hsz5;have hb6:=Zhq HB5.out HOW5.out q1 q2 q3 q4 hk6 hsz5;refine Zh2 (v:=v6) (w':=w6) rfl (Zj6 rfl rfl rfl hr6) ⟨(hb6.cell (p:=⟨w.heap.size,0,none⟩) (Zaa d0)).trans d0,(hb6.cell (p:=⟨w.heap.size,1,none⟩) (Zaa d1)).trans d1,(hb6.cell (p:=⟨w.heap.size,2,none⟩) (Zaa d2)).trans d2⟩ ?_;simp only[Zah]
     iterate 1
      refine Zar rfl ?_;apply Exists.intro;refine⟨fun w' hw=>?_,?_⟩
      ·
       obtain⟨h1,h2,h3⟩:=hw;go_simp;rfl
      simp only[Zah]
     refine Zfp ?_;have HB6:=Hd hb6;have HOW6:=Hd hown6;have hsz6:w1.heap.size<=w6.heap.size:=by omega
     clear hb6 hown6 q1 q2 q3 q4 hk6 hr6 g0 g1 g2 hbn;go_wp2_with fail;go_roundw
     case rel=>exact⟨j+1,by omega,by go_num,Hd (by unfold OwnB;rw[HYY.out];exact HOW6.out),HB6,hsz6⟩
     case measure=>simp[intOf];omega
    ·
     obtain rfl:j=p:=by omega
     have HF:Hid (∃ v,Ending.returned u7=.returned v/\OwnB wq w.heap.size v ((List.range j).map G)/\Below w.heap.size w wq):=Hd ⟨u7,rfl,HOW.out.lower (by omega),HB1.out.trans (HBEL.out.mono HB1.out.size)⟩;go_wp2_with fail;go_ret;exact HF.out
open Go.RowKit
section
variable {P:Program} (w:World)
theorem Zji (t ty e:TypeId) (i:TypeInfo) (ht:P.underlying t=some (.slice e)) (hi:P.info? e=some i)
 (g off sLen sCap:Nat) (cur:Array Value) (hg:w.heap[g]?=some (.cells cur e (0,0)))
 (a:Addr) (m c:Nat) (news:List Value) (hl:news.length=m*i.size) (hnews:∀ j u,news[j]?=some u->w.cell? (a.add j)=some u) (h1:∀ u∈news,u.oneCell'=true)
 (hroom:sLen+m<=sCap) (hfit:off+sLen*i.size+news.length<=cur.size) :
 (Builtin.append_ #[t,t] ty #[.slice (some ⟨g,off,none⟩) sLen sCap,.slice (some a) m c]).run P w =
  .ok (.slice (some ⟨g,off,none⟩) (sLen+m) sCap) (w.setRow g (cur.toList.take (off+sLen*i.size)++news++cur.toList.drop (off+sLen*i.size+news.length)).toArray):=by
 have hf:=run_firstCells_some (P:=P) w i.size m a m c news hl hnews;have hst:=run_storeCells_at P g (off+sLen*i.size) e news 0 cur w hg (by simpa using hfit) h1;simp only[Nat.add_zero] at hst;have hadd:(⟨g,off,none⟩:Addr).add (sLen*i.size)=⟨g,off+sLen*i.size,none⟩:=by unfold Addr.add;split<;>simp_all
 simp[Builtin.append_,run_underlying ht,sizeOf,typeInfo,hi,Builtin.lenOf,hroom,hf,hadd,hst]
end
theorem Yaf:(Tryz.prog.info? 103).map (fun i=>(i.zero,i.size,i.bytes))=some (some (.agg #[.int .i64 0,.int .i64 0,.int .i64 0]),3,24):=by kernel_rfl
theorem Zy4 (l:List Ev):∀ (j:Nat) (u:Value),(l.flatMap evL)[j]?=some u->∃ hk:j/3<l.length,(evL (l[j/3]))[j%3]?=some u:=by
 induction l with
 | nil=>intro j u h;simp at h
 | cons e l ih =>
   intro j u h;rw[List.flatMap_cons] at h
   by_cases hj:j<3
   ·
    rw[List.getElem?_append_left (by show j<3;exact hj)] at h;have e0:j/3=0:=by omega
    refine⟨by rw[e0];simp,?_⟩;have e1:j%3=j:=by omega
    simp only[e0,e1,List.getElem_cons_zero];exact h
   ·
    rw[List.getElem?_append_right (by show 3<=j;omega)] at h;obtain⟨hk,h2⟩:=ih (j-3) u h;have e0:j/3=(j-3)/3+1:=by omega
    have e1:j%3=(j-3)%3:=by omega
    refine⟨by rw[e0,List.length_cons];omega,?_⟩;simp only[e0,e1,List.getElem_cons_succ];exact h2
theorem EvsAt.news {w:World} {b off:Nat} {l:List Ev} (h:EvsAt w (some ⟨b,off,none⟩) l):∀ j u,(l.flatMap evL)[j]?=some u->w.cell? ((⟨b,off,none⟩:Addr).add j)=some u:=by
 intro j u hu;have hadd:(⟨b,off,none⟩:Addr).add j=⟨b,off+j,none⟩:=by unfold Addr.add;split<;>simp_all
 obtain⟨hk,h2⟩:=Zy4 l j u hu;obtain⟨b',off',e,c0,c1,c2⟩:=h.cells (j/3) hk;cases e;rw[hadd];have hm:j%3<3:=Nat.mod_lt _ (by decide);rcases(by omega:j%3=0\/j%3=1\/j%3=2) with e|e|e<;>rw[e] at h2
 ·
  have e2:j=j/3*3:=by omega
  rw[e2,c0];exact h2
 ·
  have e2:j=j/3*3+1:=by omega
  rw[e2,<- Nat.add_assoc,c1];exact h2
 ·
  have e2:j=j/3*3+2:=by omega
  rw[e2,<- Nat.add_assoc,c2];exact h2
theorem Zy5 (l:List Ev):∀ u∈l.flatMap evL,u.oneCell'=true:=by
 intro u hu;obtain⟨e,_,h⟩:=List.mem_flatMap.1 hu;simp only[evL,List.mem_cons,List.not_mem_nil,or_false] at h;rcases h with rfl|rfl|rfl<;>rfl
theorem Zje {o:Own} {w:World} {v:Value} {ws l:List Ev} {a:Option Addr} {c:Nat} (h:Zbx o w v ws) (hlt:Zak o w) (hev:EvsAt w a l) (hsm:ws.length+l.length<=1000) (ty:TypeId) :
 ∃ v' w' o',(Builtin.append_ #[24,24] ty #[v,.slice a l.length c]).run Tryz.prog w=.ok v' w'/\Zbx o' w' v' (ws++l)/\Chg (· = .waits) o o' w w'/\Zak o' w':=by
 obtain⟨i,hi,hz,hsz,hby⟩:=info_parts Yaf;have ht:=Tryz.underlying24
 by_cases h0:l=[]
 ·
  subst h0;refine⟨v,w,o,?_,by rw[List.append_nil];exact h,Chg.refl _ _ _,hlt⟩;rcases h.ex with ⟨rfl,rfl⟩|⟨g,off,cap,cur,rfl,_,_,hn,_⟩
  ·
   cases a<;>simp[Builtin.append_,run_underlying ht,sizeOf,typeInfo,hi,Builtin.lenOf,Builtin.firstCells,loadCells,loadCellsFrom]
  ·
   cases a<;>simp[Builtin.append_,run_underlying ht,sizeOf,typeInfo,hi,Builtin.lenOf,hn,Builtin.firstCells,storeCells,loadCells,loadCellsFrom]
 ·
  have hl0:0<l.length:=List.length_pos_iff.2 h0;obtain⟨b,off,rfl,_⟩:=hev.cells 0 hl0;have hnews:=hev.news;have hone:=Zy5 l;have hln:(l.flatMap evL).length=l.length*i.size:=by rw[hsz];exact Zc1 l
  have hlf:(ws.flatMap evL++l.flatMap evL).length=(ws++l).length*3:=by rw[List.length_append,Zc1,Zc1,List.length_append];omega
  have mk:∀ (old:Nat),Zbx (Zcp o w.heap.size .waits) (w.drew.alloc (.cells ((ws.flatMap evL).toArray++(l.flatMap evL).toArray++Builtin.zeroCells (Value.agg #[.int .i64 0,.int .i64 0,.int .i64 0]).cells (grownCap w (ws.length+l.length) old 103-(ws.length+l.length))) 103)) (.slice (some ⟨w.heap.size,0,none⟩) (ws.length+l.length) (grownCap w (ws.length+l.length) old 103)) (ws++l) /\
   Chg (· = .waits) o (Zcp o w.heap.size .waits) w (w.drew.alloc (.cells ((ws.flatMap evL).toArray++(l.flatMap evL).toArray++Builtin.zeroCells (Value.agg #[.int .i64 0,.int .i64 0,.int .i64 0]).cells (grownCap w (ws.length+l.length) old 103-(ws.length+l.length))) 103)) /\
   Zak (Zcp o w.heap.size .waits) (w.drew.alloc (.cells ((ws.flatMap evL).toArray++(l.flatMap evL).toArray++Builtin.zeroCells (Value.agg #[.int .i64 0,.int .i64 0,.int .i64 0]).cells (grownCap w (ws.length+l.length) old 103-(ws.length+l.length))) 103)):=by
   intro old;have hge:=grownCap_ge w (ws.length+l.length) old 103;have hcm:grownCap w (ws.length+l.length) old 103<=maxLen:=grownCap_le_maxLen w _ old _ (by unfold maxLen;omega);refine⟨⟨.inr ⟨w.heap.size,0,_,_,by rw[List.length_append],Zbf _ _ _,heap_alloc_new w.drew _,by rw[List.length_append];exact hge,hcm,?_,?_⟩⟩,((Chg.refl (· = .waits) o w).drewN 1).allocR (w':=w.drewN 1) hlt _ rfl,Zak.allocR (w:=w.drewN 1) hlt _ .waits⟩
   ·
    have e3:(Value.agg #[.int .i64 0,.int .i64 0,.int .i64 0]).cells.size=3:=rfl;simp only[Array.size_append,List.size_toArray,size_zeroCells,e3,Zc1,Nat.zero_add];omega
   ·
    simp only[Array.toList_append,List.drop_zero,List.flatMap_append];rw[List.take_left' hlf]
  rcases h.ex with ⟨rfl,rfl⟩|⟨g,off2,cap,cur,rfl,hog,hg,hnc,hcm,hcs,htake⟩
  ·
   have hr:=run_append_nil (P:=Tryz.prog) w 24 ty 103 i _ ht hi hz ⟨b,off,none⟩ l.length c (l.flatMap evL) hln hnews hl0 (by simp at hsm;omega) (by rw[hby];simp at hsm;omega);have hm:=mk 0;simp only[List.length_nil,Nat.zero_add,List.flatMap_nil,List.nil_append,Array.empty_append] at hm ⊢;exact⟨_,_,_,hr,hm⟩
  ·
   by_cases hroom:ws.length+l.length<=cap
   ·
    have hfit:off2+ws.length*i.size+(l.flatMap evL).length<=cur.size:=by rw[hln,hsz];omega
    have hr:=Zji (P:=Tryz.prog) w 24 ty 103 i ht hi g off2 ws.length cap cur hg ⟨b,off,none⟩ l.length c (l.flatMap evL) hln hnews hone hroom hfit;refine⟨_,_,o,hr,⟨.inr ⟨g,off2,cap,_,by rw[List.length_append],hog,setRow_heap w g cur _ _ _ hg,by rw[List.length_append];exact hroom,hcm,?_,?_⟩⟩,⟨rfl,rfl,rfl,by simp,fun k _ hk=>setRow_other w g k _ (by rintro rfl;exact hk _ hog rfl),fun _ _ h=>h,fun _ h=>(h rfl).elim⟩,fun k q hq=>by have:=hlt k q hq;simpa using this⟩
    ·
     simp only[List.size_toArray,List.length_append,List.length_take,List.length_drop,Array.length_toList];omega
    ·
     rw[hsz] at hfit ⊢;have e1:(cur.toList.take (off2+ws.length*3)).drop off2=ws.flatMap evL:=by
      rw[<- htake,List.drop_take,Nat.add_sub_cancel_left]
     have e2:off2<=(cur.toList.take (off2+ws.length*3)).length:=by
      have hq:ws.length*3<=cap*3:=Nat.mul_le_mul_right _ hnc;have hq2:off2+ws.length*3<=cur.size:=by clear hfit;omega
      have hq3:cur.toList.length=cur.size:=Array.length_toList;rw[List.length_take,hq3,Nat.min_eq_left hq2];exact Nat.le_add_right _ _
     simp only[List.append_assoc];rw[List.drop_append_of_le_length e2,e1,<- List.append_assoc,List.flatMap_append,List.take_left' hlf]
   ·
    have holds:∀ j u,(ws.flatMap evL)[j]?=some u->w.cell? ((⟨g,off2,none⟩:Addr).add j)=some u:=by
     intro j u hu;have hadd:(⟨g,off2,none⟩:Addr).add j=⟨g,off2+j,none⟩:=by unfold Addr.add;split<;>simp_all
     rw[hadd,cell_of_row w g (off2+j) cur _ _ hg];rw[<- htake,List.getElem?_take] at hu;split at hu
     ·
      rw[List.getElem?_drop] at hu;simpa using hu
     ·
      cases hu
    have hr:=run_append_grow (P:=Tryz.prog) w 24 ty 103 i _ ht hi hz ⟨g,off2,none⟩ ws.length cap (ws.flatMap evL) (by rw[hsz];exact Zc1 ws) holds ⟨b,off,none⟩ l.length c (l.flatMap evL) hln hnews (by omega) (by omega) (growslice_fits (by omega) (by rw[hby];omega));exact⟨_,_,_,hr,mk cap⟩
open Go.RowKit
theorem Zbx.form {o:Own} {w:World} {v:Value} {ws:List Ev} (h:Zbx o w v ws):∃ a c,v=.slice a ws.length c:=by
 rcases h.ex with ⟨rfl,rfl⟩|⟨g,off,cap,cur,rfl,_⟩
 ·
  exact⟨_,_,rfl⟩
 ·
  exact⟨_,_,rfl⟩
theorem Zkx {P:Program} {ops:Array Oper} {rest:List Oper} {op:Oper} {a:Act} {Q:Exit->Act->World->Prop} {w w':World} {vs vx v':Value} (hgd:op.guard=none) (s x:Operand) (t:TypeId)
 (hop:op.op=.call { callee:=.builtin .append,args:=#[s,x],argTypes:=#[t,t] }) (hs:a.eval s=vs) (hx:a.eval x=vx) (hr:(Builtin.append_ #[t,t] op.type #[vs,vx]).run P w=.ok v' w')
 (hK:wpList P ops Q rest (a.put op.dst v') w'):wpList P ops Q (op::rest) a w:=by
 refine wpList_plain hgd fun K hKK=>?_
 unfold Oper.wp execOp;simp only[hop,resolve,invoke,builtin,Sem.run_bind,Sem.run_pure,Result.andThen_ok,List.map_toArray,List.map_cons,List.map_nil,hs,hx,hr];exact hKK _ _ hK
theorem Zb4.setWaits {F:Phi} {o o':Own} {w w':World} {mb:Nat} {m:ManD} {s:ManW} (h:Zb4 F o w mb m s) (hlt:Zak o w) {v':Value} {l':List Ev} (hw:Zbx o' w' v' l') (hc:Chg (· = .waits) o o' w w'):Zb4 F o' (w'.setCell ⟨mb,4,none⟩ v') mb { m with waits:=l' } { s with vw:=v' }:=by
 have key:∀ {g r},o g=some r->r ≠ .man->r ≠ .waits->(w'.setCell ⟨mb,4,none⟩ v').heap[g]?=w.heap[g]?:=by
  intro g r hg h1 h2;refine(Zaf (p:=⟨mb,4,none⟩) (fun e=>?_) _).trans (hc.same hlt hg h2);have e':g=mb:=e;subst e';have:=h.own;rw[hg] at this;cases this;exact h1 rfl
 refine⟨hc.ext _ _ h.own,?_,h.store.keepR (fun g r hg hr=>key hg (by rintro rfl;simp[Zas,Ze2] at hr) (by rintro rfl;simp[Zas,Ze2] at hr)) hc.ext,h.memo.keep (fun g r hg hr=>key hg (by rintro rfl;rcases hr with e|e<;>cases e) (by rintro rfl;rcases hr with e|e<;>cases e)) hc.ext,hc.ext _ _ h.ownh,h.map.keepB (key h.ownh (by simp) (by simp)),hw.keep (fun g hg=>Zaf (p:=⟨mb,4,none⟩) (fun e=>?_) _) (fun _ h=>h)⟩
 ·
  exact Zae ((hc.same hlt h.own (by simp)).trans h.blk) _
 ·
  have e':g=mb:=e;subst e';have:=hc.ext _ _ h.own;rw[hg] at this;cases this
section
variable {K:Law} {n:Nat} {Od:List Nat->Prop} {room:Nat} {w0 w w':World} {mb:Nat} {fs:List (Int×BF)} {nx:Int} {o o':Own} {m m':ManD} {V V':Nat->BF}
structure Planned (K:Law) (n:Nat) (Od:List Nat->Prop) (room:Nat) (w0:World) (mb:Nat) (fs:List (Int×BF)) (nx:Int) (o:Own) (w:World) (m:ManD) (V:Nat->BF) (l:List Ev) (z:Int) (o':Own) (w':World) (m':ManD):Prop where
 sat:SatE K n Od room w0 mb fs nx w' o' m' V
 d:m'.d=m.d
 chg:Chg (fun _=>True) o o' w w'
 no:z≠0->m'.waits=m.waits/\m'.calls=m.calls
 yes:z=0->m'.waits=m.waits++l/\m'.calls=if m.waits=[] then 0 else m.calls
theorem Zpz (h:SatE K n Od room w0 mb fs nx w o m V) {a:Option Addr} {c:Nat} {l:List Ev} (hev:EvsAt w a l) (hno:0<l.length->∀ x,a=some x->o x.block=none) (hwl:m.waits.length<=256) :
 Calls Tryz.prog 71 #[.pointer (some ⟨mb,0,none⟩),.slice a l.length c] w fun e w'=>e=.returned (.int .i64 (Zeu n m.waits.length l))/\∃ o' m',Planned K n Od room w0 mb fs nx o w m V l (Zeu n m.waits.length l) o' w' m':=by
 obtain⟨Q,hQ⟩:∃ Q:Ending->World->Prop,Q=fun e w'=>e=.returned (.int .i64 (Zeu n m.waits.length l))/\∃ o' m',Planned K n Od room w0 mb fs nx o w m V l (Zeu n m.waits.length l) o' w' m':=⟨_,rfl⟩
 rw[<- hQ];have HQ:=Hd hQ;clear hQ;have hll:=hev.len;have hn64:n<=64:=by rw[<- h.vars];exact h.ok.store.small
 obtain⟨s,hs⟩:=h.is;obtain⟨c0,c1,c2,c3,c4,c5,f0⟩:=cells6 hs.blk;obtain⟨av,cv,hvw⟩:=hs.waits.form
 have HBAD:Hid (∀ (z:Int) W,Below w.heap.size w W->Zeu n m.waits.length l=z->z≠0->Q (.returned (.int .i64 z)) W):=Hd (by
  intro z W hb hz h0;rw[HQ.out,hz];exact⟨rfl,o,m,h.below hb,rfl,Chg.of_below hb _ _,fun _=>⟨rfl,rfl⟩,fun e=>(h0 e).elim⟩)
 have HV:Hid (∀ W,Below w.heap.size w W->Calls Tryz.prog 74 #[.pointer (some ⟨mb,0,none⟩)] W fun e w'=>e=.returned (.int .i64 n)/\w'=W):=Hd (fun W hb=>(Zkc (h.below hb).is).mono fun e w' q=>⟨by rw[q.1,h.vars],q.2.symm⟩);have HI:=Hd hev;have HS:=Hd hs;have HH:=Hd h;have HNO:=Hd hno;rw[hvw] at c4;have HVW:=Hd hvw;have HWL:=Hd hwl;clear h hs hev hno hvw
 by_cases hmany:(l.length:Int)>256-m.waits.length
 ·
  have HF:=Hd (HBAD.out 18 w (Below.refl _ _) (by unfold Zeu;rw[if_pos hmany]) (by decide))
  go_enter Tryz.func71,Tryz.ntmps71
  go_wp2_with fail;exact HF.out
 have HR:Hid (Zeu n m.waits.length l=Zk2 n (l.drop 0)):=Hd (by unfold Zeu;rw[if_neg hmany];rfl);obtain⟨P,hP⟩:∃ P,P=Zeu n m.waits.length l:=⟨_,rfl⟩;rw[<- hP] at HR HBAD;have HPE:=Hd hP;clear hP;have HM:=Hd hmany
 go_enter Tryz.func71,Tryz.ntmps71
 go_wp2_with fail
 go_loopw [20] (fun s20 wr=>∃ i:Nat,i<=l.length/\s20=.int .i64 i/\Hid (Below w.heap.size w wr)/\Hid (P=Zk2 n (l.drop i))) (fun s20 _=>l.length-(intOf s20).toNat)
 case atStart=>exact⟨0,Nat.zero_le _,rfl,Hd (Below.refl _ _),HR⟩
 case round =>
  clear HR;obtain⟨i,hi,rfl,HB,HP⟩:=hrel
  by_cases hlt:i<l.length
  ·
   obtain⟨b,off,rfl,e0,e1,e2⟩:=(HI.out.below HB.out).cells i hlt;have hiz:(i:Int)<l.length:=by omega
   have HC:Hid (∀ z:Int,Zg1 n l[i]=z->z≠0->P=z):=Hd fun z hz h0=>by rw[HP.out,Zgs hlt,hz,if_neg h0]
   have HN:Hid (Zg1 n l[i]=0->P=Zk2 n (l.drop (i+1))):=Hd fun hz=>by rw[HP.out,Zgs hlt,hz,if_pos rfl]
   have HE:Hid (Zg1 n l[i]=if l[i].kind<1\/l[i].kind>3 then 11 else if l[i].after<1\/(l[i].kind=2/\(l[i].level<0\/l[i].level>(n:Int)-2)) then 2 else 0):=Hd rfl;obtain⟨ev,hev⟩:∃ ev,ev=l[i]:=⟨_,rfl⟩;rw[<- hev] at e0 e1 e2 HC HN HE;obtain⟨af,ki,le⟩:=ev;dsimp only at e0 e1 e2 HE;clear hev HP c0 c1 c2 c3 c4 c5 f0;obtain⟨W,hW⟩:∃ W,W=wr.alloc (.cells #[.int .i64 af,.int .i64 ki,.int .i64 le] 103):=⟨_,rfl⟩;have hbW:Below w.heap.size w W:=HB.out.trans ((show Below wr.heap.size wr W by rw[hW];exact Zad wr _).mono HB.out.size);obtain⟨bx,hbx⟩:∃ q,q=wr.heap.size:=⟨_,rfl⟩;have hx:W.heap[bx]?=some (.cells #[.int .i64 af,.int .i64 ki,.int .i64 le] 103 (0,0)):=by rw[hW,hbx];exact heap_alloc_new wr _
   have b0:W.cell? ⟨bx,0,none⟩=some (.int .i64 af):=by rw[cell_of_row W _ 0 _ _ _ hx];rfl
   have b1:W.cell? ⟨bx,1,none⟩=some (.int .i64 ki):=by rw[cell_of_row W _ 1 _ _ _ hx];rfl
   have b2:W.cell? ⟨bx,2,none⟩=some (.int .i64 le):=by rw[cell_of_row W _ 2 _ _ _ hx];rfl
   have HW:=Hd hW;have HBX:=Hd hbx;have HBW:=Hd hbW;have HVV:Hid (∀ q,Calls Tryz.prog 74 #[.pointer (some ⟨mb,0,none⟩)] (W.drewN q) fun e w'=>e=.returned (.int .i64 n)/\w'=W.drewN q):=Hd (fun q=>HV.out _ (hbW.trans ((Zai W q).mono hbW.size)));have HJL:=Hd hlt;clear hW hbx hbW hx;go_upto_region 8 with fail;rw[<- HW.out,<- HBX.out];have hki:ki<1\/ki>3\/(ki=2)\/(ki=1\/ki=3):=by omega
   rcases hki with hk|hk|hk|hk
   ·
    have HF:=Hd (HBAD.out 11 W HBW.out (HC.out 11 (by rw[HE.out,if_pos (.inl hk)]) (by decide)) (by decide));go_wp2_with fail;exact HF.out
   ·
    have HF:=Hd (HBAD.out 11 W HBW.out (HC.out 11 (by rw[HE.out,if_pos (.inr hk)]) (by decide)) (by decide));have hk1:¬ ki<1:=by omega
    go_wp2_with fail;exact HF.out
   ·
    by_cases ha:af<1
    ·
     have HF:Hid (∀ q,Q (.returned (.int .i64 2)) (W.drewN q)):=Hd (fun q=>HBAD.out 2 _ (HBW.out.trans ((Zai W q).mono HBW.out.size)) (HC.out 2 (by rw[HE.out,if_neg (by omega),if_pos (.inl ha)]) (by decide)) (by decide));subst hk;go_upto_region 10 with fail
     go_quiet (with_reducible exact Calls.quiet_of_same (HVV.out _))
     go_wp2_with fail;exact HF.out _
    ·
     by_cases hl0:le<0
     ·
      have HF:Hid (∀ q,Q (.returned (.int .i64 2)) (W.drewN q)):=Hd (fun q=>HBAD.out 2 _ (HBW.out.trans ((Zai W q).mono HBW.out.size)) (HC.out 2 (by rw[HE.out,if_neg (by omega),if_pos (.inr ⟨hk,.inl hl0⟩)]) (by decide)) (by decide));subst hk;go_upto_region 10 with fail
      go_quiet (with_reducible exact Calls.quiet_of_same (HVV.out _))
      go_wp2_with fail;exact HF.out _
     ·
      by_cases hl1:le>=(n:Int)-1
      ·
       have HF:Hid (∀ q,Q (.returned (.int .i64 2)) (W.drewN q)):=Hd (fun q=>HBAD.out 2 _ (HBW.out.trans ((Zai W q).mono HBW.out.size)) (HC.out 2 (by rw[HE.out,if_neg (by omega),if_pos (.inr ⟨hk,.inr (by omega)⟩)]) (by decide)) (by decide));subst hk;go_upto_region 10 with fail
       go_quiet (with_reducible exact Calls.quiet_of_same (HVV.out _))
       go_wp2_with fail;exact HF.out _
      ·
       have HPP:=Hd (HN.out (by rw[HE.out,if_neg (by omega),if_neg (by omega)]));subst hk;go_upto_region 10 with fail
       go_quiet (with_reducible exact Calls.quiet_of_same (HVV.out _))
       have HBQ:=Hd (HBW.out.trans ((Zai W nq).mono HBW.out.size));go_wp2_with fail;go_roundw
       case rel=>exact⟨i+1,Nat.succ_le_of_lt HJL.out,by go_num,HBQ,HPP⟩
       case measure =>
        have:=HJL.out;simp[intOf];omega
   ·
    have hk1:¬ ki<1:=by omega
    have hk2:¬ ki>3:=by omega
    have hk3:(ki == 2)=false:=by simp;omega
    by_cases ha:af<1
    ·
     have HF:Hid (∀ q,Q (.returned (.int .i64 2)) (W.drewN q)):=Hd (fun q=>HBAD.out 2 _ (HBW.out.trans ((Zai W q).mono HBW.out.size)) (HC.out 2 (by rw[HE.out,if_neg (by omega),if_pos (.inl ha)]) (by decide)) (by decide));clear hk;go_upto_region 10 with fail
     go_quiet (with_reducible exact Calls.quiet_of_same (HVV.out _))
     go_wp2_with fail;exact HF.out _
    ·
     have HPP:=Hd (HN.out (by rw[HE.out,if_neg (by omega),if_neg (by omega)]));clear hk;go_upto_region 10 with fail
     go_quiet (with_reducible exact Calls.quiet_of_same (HVV.out _))
     have HBQ:=Hd (HBW.out.trans ((Zai W nq).mono HBW.out.size));go_wp2_with fail;go_roundw
     case rel=>exact⟨i+1,Nat.succ_le_of_lt HJL.out,by go_num,HBQ,HPP⟩
     case measure =>
      have:=HJL.out;simp[intOf];omega
  ·
   have he:i=l.length:=by omega
   have hiz:¬ (i:Int)<l.length:=by omega
   have HPP:Hid (P=0):=Hd (by rw[HP.out,he,List.drop_length];rfl);clear he;have hs':=HS.out.below HH.out.lt HB.out;have hlt':=HH.out.lt.mono HB.out.size;have hsm:m.waits.length+l.length<=1000:=by have:=HM.out;have:=HWL.out;omega
   have HFIN:Hid (∀ (cl:Int) (W:World) (hm:Zb4 (K m.d V) o W mb { m with calls:=cl } s) (hl:Zak o W) (hc:Chg (fun _=>True) o o w W) (v':Value) (W':World) (o':Own),cl=(if m.waits=[] then 0 else m.calls)->Zbx o' W' v' (m.waits++l)->Chg (· = .waits) o o' W W'->Zak o' W'->Q (.returned (.int .i64 0)) (W'.setCell ⟨mb,4,none⟩ v')):=Hd (by
    intro cl W hm hl hc v' W' o' hcl hw hc2 hl2;rw[HQ.out,<- HPE.out,HPP.out];have hm2:=hm.setWaits hl hw hc2;have hc3:Chg (fun _=>True) o o' w (W'.setCell ⟨mb,4,none⟩ v'):=(hc.trans hc2.any).setCell (p:=⟨mb,4,none⟩) (hc2.ext _ _ hm.own) trivial _;exact⟨rfl,o',{ m with waits:=m.waits++l,calls:=cl },⟨⟨_,hm2⟩,hl2.mono (by simp[World.setCell]),⟨HH.out.ok.store,⟨HH.out.ok.handles.nodup,HH.out.ok.handles.zero,HH.out.ok.handles.one,HH.out.ok.handles.lt,HH.out.ok.handles.next,HH.out.ok.handles.ok,HH.out.ok.handles.len,HH.out.ok.handles.refs⟩⟩,HH.out.vars,HH.out.od,HH.out.room,HH.out.next,HH.out.hs,HH.out.chg.lower (ChgX.of_chg hc3 NoB) (fun _ e=>e.elim)⟩,rfl,hc3,fun e=>(e rfl).elim,fun _=>⟨rfl,hcl⟩⟩)
   have HI2:=HI.out.below HB.out;clear c0 c1 c2 c3 c4 c5 f0;obtain⟨c0,c1,c2,c3,c4,c5,f0⟩:=cells6 hs'.blk
   by_cases hw0:m.waits=[]
   ·
    have hz:m.waits.length=0:=by rw[hw0];rfl
    have HZ:=Hd hz;have hm1:Zb4 (K m.d V) o (wr.setCell ⟨mb,5,none⟩ (.int .i64 0)) mb { m with calls:=0 } s:=hs'.field rfl rfl rfl rfl rfl (hs'.waits) rfl;have hb1:Chg (fun _=>True) o o w (wr.setCell ⟨mb,5,none⟩ (.int .i64 0)):=(Chg.of_below HB.out _ _).setCell (p:=⟨mb,5,none⟩) hs'.own trivial _;have hl1:Zak o (wr.setCell ⟨mb,5,none⟩ (.int .i64 0)):=hlt'.mono (by simp[World.setCell])
    have he1:EvsAt (wr.setCell ⟨mb,5,none⟩ (.int .i64 0)) a l:=⟨HI2.len,fun k hk=>by
     obtain⟨b,off,e,q0,q1,q2⟩:=HI2.cells k hk;have hne:mb≠b:=by
      rintro rfl;have:=HNO.out (by omega) _ e;have h2:=hs'.own;rw[h2] at this;cases this
     exact⟨b,off,e,Zbb q0 (.inl hne),Zbb q1 (.inl hne),Zbb q2 (.inl hne)⟩⟩
    obtain⟨v',w2,o2,hrun,hwa,hca,hla⟩:=Zje (c:=c) hm1.waits hl1 he1 hsm 24;obtain⟨av2,cv2,hv2⟩:=hwa.form;subst hv2;have HF:=Hd (HFIN.out 0 _ hm1 hl1 hb1 _ w2 o2 (by rw[if_pos hw0]) hwa hca hla);obtain⟨k0,k1,k2,k3,k4,k5,kf⟩:=cells6 hm1.blk;have hblk:=(hca.same hl1 hm1.own (by simp)).trans hm1.blk;obtain⟨j0,j1,j2,j3,j4,j5,jf⟩:=cells6 hblk;rw[HVW.out,hz] at c4 k4 hrun;clear hs' hlt' hm1 hb1 hl1 he1 hwa hca hla HI2 hw0 hblk k0 k1 k2 k3 k5 kf;have HRUN:=Hd hrun;clear hrun;go_upto_region 15 with fail;go_wp2_with (refine Zkx rfl _ _ _ rfl rfl rfl HRUN.out ?_);have hq:=HF.out;rw[List.length_append,HZ.out,Nat.zero_add] at hq;exact hq
   ·
    have hz:0<m.waits.length:=List.length_pos_iff.2 hw0;have hz1:((m.waits.length:Int) == 0)=false:=by rw[beq_eq_false_iff_ne];omega
    obtain⟨v',w2,o2,hrun,hwa,hca,hla⟩:=Zje (c:=c) hs'.waits hlt' HI2 hsm 24;obtain⟨av2,cv2,hv2⟩:=hwa.form;subst hv2;have HF:=Hd (HFIN.out m.calls _ hs' hlt' (Chg.of_below HB.out _ _) _ w2 o2 (by rw[if_neg hw0]) hwa hca hla);have hblk:=(hca.same hlt' hs'.own (by simp)).trans hs'.blk;obtain⟨j0,j1,j2,j3,j4,j5,jf⟩:=cells6 hblk;rw[HVW.out] at c4 hrun;clear hs' hlt' hwa hca hla HI2 hw0 hblk hz;have HRUN:=Hd hrun;clear hrun;go_upto_region 15 with fail;go_wp2_with (refine Zkx rfl _ _ _ rfl rfl rfl HRUN.out ?_);have hq:=HF.out;rw[List.length_append] at hq;exact hq
end
open Go.RowKit
def Zcd (n:Nat):Nat:=4*2^(2*n)+192*2^n
theorem Zrr (n:Nat) (hn:n<=8) (w:World):Calls Tryz.prog 137 #[.int .i64 n,.int .i64 40] w fun x w'=>x=.returned (.int .i64 (Zcd n))/\w=w':=by
 have HB:Hid (∀ (z:Int) (k:Nat),z=k->k<=16->Calls Tryz.prog 166 #[.int .i64 z] w fun x w'=>x=.returned (.int .i64 (2^k:Nat))/\w=w'):=Hd fun z k e hk=>by subst e;exact Zyr k (by omega) w
 have hA:2^(2*n)<=65536:=Nat.le_trans (Nat.pow_le_pow_right (by omega) (show 2*n<=16 by omega)) (by decide);have hB:2^n<=65536:=Nat.le_trans (Nat.pow_le_pow_right (by omega) (show n<=16 by omega)) (by decide);have HB1:=Hd (fun z e=>HB.out z (2*n) e (by omega));have HB2:=Hd (fun z e=>HB.out z n e (by omega));unfold Zcd;obtain⟨a,ha⟩:∃ a,a=2^(2*n):=⟨_,rfl⟩;obtain⟨b,hb⟩:∃ b,b=2^n:=⟨_,rfl⟩;rw[<- ha] at hA HB1 ⊢;rw[<- hb] at hB HB2 ⊢;clear ha hb HB
 go_enter Tryz.func137,Tryz.ntmps137
 go_wp2_with fail;refine(HB1.out _ (by omega)).mono ?_;rintro x w' ⟨rfl,rfl⟩;go_wp2_with fail;refine(HB2.out _ (by omega)).mono ?_;rintro x w' ⟨rfl,rfl⟩;go_wp2_with fail;go_ret;exact⟨by congr 2,rfl⟩
theorem Zso (n:Nat) (hn:n<=8) (w:World):Calls Tryz.prog 68 #[.int .i64 n,.int .i64 40] w fun x w'=>x=.returned (.int .i64 (Zcd n))/\w=w':=by
 have HE:=Hd (Zrr n hn w)
 go_enter Tryz.func68,Tryz.ntmps68
 go_wp2_with fail;refine HE.out.mono ?_;rintro x w' ⟨rfl,rfl⟩;go_wp2_with fail;go_ret;exact⟨rfl,rfl⟩
theorem Zvj {n:Nat} (hn:n<=6):1<=Zcd n/\Zcd n<=1048576:=by
 have h1:2^(2*n)<=4096:=Nat.le_trans (Nat.pow_le_pow_right (by omega) (show 2*n<=12 by omega)) (by decide);have h2:2^n<=64:=Nat.le_trans (Nat.pow_le_pow_right (by omega) hn) (by decide);have h3:0<2^n:=Nat.pow_pos (by omega);unfold Zcd;omega
theorem Zhl {n k:Nat} (hk:k<=192):k*2^n<=Zcd n:=by
 have:=Nat.mul_le_mul_right (2^n) hk;unfold Zcd;omega
theorem Zsp {n j s:Nat} (hn:1<=n) (hs:s<=40) (hj:j<5):2*2^n+j*(39*2^n+1)+s*2^n<=Zcd n:=by
 have h1:=Nat.mul_le_mul_right (2^n) hs;have h2:=Nat.mul_le_mul_right (39*2^n+1) (Nat.le_of_lt_succ hj);have h3:2^1<=2^n:=Nat.pow_le_pow_right (by omega) hn;have h4:2^(n+1)<=2^(2*n):=Nat.pow_le_pow_right (by omega) (by omega);rw[Nat.pow_succ] at h4;unfold Zcd;omega
theorem Zsq {n j s k:Nat} (hs:s<=40) (h1:1<=s) (h:k<=2*2^n+j*(39*2^n+1)+Zhe n s):k<=2*2^n+(j+1)*(39*2^n+1):=by
 have h2:=Zhs n h1;have h3:=Nat.mul_le_mul_right (2^n) hs;rw[Nat.add_mul];have h4:0<2^n:=Nat.pow_pos (by omega);omega
theorem Zxe {n j k:Nat} (hj:j<=5) (h:k<=2*2^n+j*(39*2^n+1)) (hn:2<=n):k+7<=Zcd n:=by
 have h2:=Nat.mul_le_mul_right (39*2^n+1) hj;have h3:2^2<=2^n:=Nat.pow_le_pow_right (by omega) hn;have h4:2^(n+2)<=2^(2*n):=Nat.pow_le_pow_right (by omega) (by omega);rw[Nat.pow_add] at h4;unfold Zcd;omega
def two:List (Int×BF):=[(0,fun _=>false),(1,fun _=>true)]
theorem Zyh:B2 two:=⟨by simp[two],by simp[two]⟩
theorem Zqo {K:Law} (n room:Nat) (w:World) (hn:n<=64) (h1:1<=room) (h2:room<=1048576) :
 Calls Tryz.prog 67 #[.int .i64 n,.int .i64 room] w fun x w'=>∃ mb,x=.returned (.tuple #[.pointer (some ⟨mb,0,none⟩),.int .i64 0])/\∃ o m V,SatE K n (fun _=>True) room w mb two 2 w' o m V/\m.waits=[]/\m.calls=0/\m.d.pool.many=0:=by
 refine(Zzn (F:=K (man0 n room).d (fun _ _=>true)) (fun _=>none) n room w (fun k r h=>by cases h) hn h1 h2).mono ?_;rintro x w1 ⟨mb,o1,rfl,hm0,hc0,hl0,_⟩;exact⟨mb,rfl,o1,man0 n room,fun _ _=>true,⟨hm0,hl0,Zzl n room hn,by simp[man0,store0],trivial,by simp[man0,store0,pool0],rfl,by simp[man0,two,ef];constructor<;>rfl,ChgX.of_chg hc0 NoB⟩,rfl,rfl,rfl⟩
def OrdP (zs:List Int) (l:List Nat):Prop:=∀ j,j<zs.length->((l.getD j 0:Nat):Int)=at0 zs j
def SetP (K:Law) (q:AskD) (n:Nat) (w:World) (y:Ending) (w':World):Prop :=
 ∃ mb vl vx wb hs nx,y=.returned (.tuple #[.pointer (some ⟨mb,0,none⟩),vl,vx,.bool true])/\Below w.heap.size w wb/\hs.map Prod.snd=q.es.map fnT/\nx<=1000/\∃ o m V,LawT K n (OrdP q.order) (Zcd n) wb mb (two++hs) nx (fun ws c=>ws=q.plan/\c=0) hs hs w' o m V vl vx/\(2<=n->m.d.pool.many+7<=Zcd n)
def SetI (K:Law) (q:AskD) (n:Nat) (wb:World) (mb:Nat) (j:Nat) (s8 s9:Value) (W:World):Prop :=
 ∃ hs nx,hs.map Prod.snd=(q.es.take j).map fnT/\nx<=2+120*(j:Int)/\∃ o m V,LawT K n (OrdP q.order) (Zcd n) wb mb (two++hs) nx (fun ws c=>ws=[]/\True) hs hs W o m V s8 s9/\m.d.pool.many<=2*2^n+j*(39*2^n+1)
theorem Zvo {K:Law} (hK:Zbp K) (q:AskD) (ao ae ap:Option Addr) (co ce cp:Nat) (w:World) (h:AskAt w q ao ae ap) (hsm:Zld q) (n:Nat) (hqn:q.vars=n) :
 Calls Tryz.prog 17 #[askV q ao ae ap co ce cp] w (SetP K q n w):=by
 have hlo:=hsm.lo;have hhi:=hsm.hi;have hes:=hsm.es;have hpl:=hsm.plan;have HSM:=Hd hsm;have HASK:=Hd h;have hn6:n<=6:=by omega
 have hn1:1<=n:=by omega
 have hrm:=Zvj hn6;obtain⟨Q,hQ⟩:∃ Q:Ending->World->Prop,Q=SetP K q n w:=⟨_,rfl⟩;rw[<- hQ];have HQ:=Hd hQ;obtain⟨w1,hw1⟩:∃ w1,w1=w.alloc (.cells #[.int .i64 q.vars,.slice ao q.order.length co,.slice ae q.es.length ce,.slice ap q.plan.length cp] 26):=⟨_,rfl⟩;have HW1:Hid (_=w1):=Hd hw1.symm;have HB1:Hid (Below w.heap.size w w1):=by rw[hw1];exact Hd (Zad _ _)
 have hblk:w1.heap[w.heap.size]?=some (.cells #[.int .i64 q.vars,.slice ao q.order.length co,.slice ae q.es.length ce,.slice ap q.plan.length cp] 26 (0,0)):=by rw[hw1];exact heap_alloc_new _ _
 have hs1:w1.heap.size=w.heap.size+1:=by rw[hw1];simp
 have HQN:=Hd hqn;rw[hqn] at hblk HW1;have d0:w1.cell? ⟨w.heap.size,0,none⟩=some (.int .i64 (n:Nat)):=by rw[cell_of_row _ _ 0 _ _ _ hblk];rfl
 have d1:w1.cell? ⟨w.heap.size,1,none⟩=some (.slice ao q.order.length co):=by rw[cell_of_row _ _ 1 _ _ _ hblk];rfl
 have d2:w1.cell? ⟨w.heap.size,2,none⟩=some (.slice ae q.es.length ce):=by rw[cell_of_row _ _ 2 _ _ _ hblk];rfl
 have d3:w1.cell? ⟨w.heap.size,3,none⟩=some (.slice ap q.plan.length cp):=by rw[cell_of_row _ _ 3 _ _ _ hblk];rfl
 have hqz:=hqn;unfold askV;rw[hqz];obtain⟨rm,hrmE⟩:∃ rm,rm=Zcd n:=⟨_,rfl⟩;have HRME:=Hd hrmE;have HRM:=Hd (fun W=>Zso n (by omega) W);rw[<- hrmE] at HRM hrm;clear h hsm hQ hw1 hblk hrmE hqn hqz;have HNEW:=Hd (Zqo (K:=K) n rm w1.drew (by omega) hrm.1 hrm.2)
 go_enter Tryz.func17,Tryz.ntmps17
 go_upto_region 1 with fail;rw[HW1.out];refine Zap (fun W:World=>W.cell? ⟨w.heap.size,0,none⟩=some (.int .i64 (n:Nat))/\True) false 11 [(0,false),(1,false),(2,false),(3,false),(4,true),(5,true),(6,false),(7,false),(8,false),(9,false),(10,false)] (by kernel_rfl) (by kernel_rfl) ⟨d0,trivial⟩ ?_;simp only[planned,Zdl]
 iterate 4
  refine Zar rfl ?_;apply Exists.intro;refine⟨fun w' hw=>?_,?_⟩
  ·
   obtain⟨h1,_⟩:=hw;go_simp;rfl
  simp only[Zah]
 refine Zb1 (R:=fun v w'=>v=.int .i64 (rm:Nat)/\w'=w1.drew) rfl (by go_simp) ((HRM.out _).mono (fun e w' he=>?_)) ?_
 ·
  obtain⟨rfl,rfl⟩:=he;exact⟨_,rfl,⟨d0,trivial⟩,rfl,rfl⟩
 rintro v w'-⟨rfl,rfl⟩;simp only[Zah];refine Zb1 (R:=fun v w'=>∃ mb,v=.tuple #[.pointer (some ⟨mb,0,none⟩),.int .i64 0]/\∃ o m V,SatE K n (fun _=>True) rm w1.drew mb two 2 w' o m V/\m.waits=[]/\m.calls=0/\m.d.pool.many=0) rfl (by go_simp) (HNEW.out.mono (fun e w' he=>?_)) ?_
 ·
  obtain⟨mb,rfl,o,m,V,hst,hrest⟩:=he;exact⟨_,rfl,⟨(hst.chg.below0.cell (p:=⟨w.heap.size,0,none⟩) (Zaa (w:=w1.drew) d0)).trans d0,trivial⟩,mb,rfl,o,m,V,hst,hrest⟩
 rintro v w2-⟨mb,rfl,o,m,V,hst,hwt,hcl,hmn⟩;simp only[Zah]
 iterate 5
  refine Zar rfl ?_;apply Exists.intro;refine⟨fun w' hw=>?_,?_⟩
  ·
   obtain⟨h1,_⟩:=hw;go_simp;rfl
  simp only[Zah]
 refine Zfp ?_;obtain⟨wb,hwb⟩:∃ wb,wb=w1.drew:=⟨_,rfl⟩;rw[<- hwb] at hst;have HBW:Hid (Below w.heap.size w wb):=Hd (by rw[hwb];exact HB1.out.trans ((Zai w1 1).mono HB1.out.size));have c0:wb.cell? ⟨w.heap.size,0,none⟩=some (.int .i64 (n:Nat)):=by rw[hwb];exact d0
 have c1:wb.cell? ⟨w.heap.size,1,none⟩=some (.slice ao q.order.length co):=by rw[hwb];exact d1
 have c2:wb.cell? ⟨w.heap.size,2,none⟩=some (.slice ae q.es.length ce):=by rw[hwb];exact d2
 have c3:wb.cell? ⟨w.heap.size,3,none⟩=some (.slice ap q.plan.length cp):=by rw[hwb];exact d3
 have hbn:w.heap.size<wb.heap.size:=Zaa c0;have HAB:=Hd (HASK.out.below HBW.out);clear hwb HNEW HRM d0 d1 d2 d3 HW1 hs1
 have HARR:=Hd (Zph (K:=K) hst (by omega) (by rw[HRME.out];have:=Zhl (n:=n) (k:=6) (by omega);simp[two];omega) (c:=co) (HAB.out.order.below hst.chg.below0) (fun h0 x hx=>by
  obtain⟨b,off,e,hc⟩:=HAB.out.order.cells 0 h0;rw[hx] at e;cases e;exact hst.none0 (Zaa hc)) (by
  rcases Nat.eq_zero_or_pos q.order.length with h0|h0
  ·
   exact .inl h0
  ·
   have:=HSM.out.order h0;rw[HQN.out] at this;exact .inr (Zxa this)))
 have e0:=(hst.chg.below0.cell (p:=⟨w.heap.size,0,none⟩) (Zaa c0)).trans c0;have e1:=(hst.chg.below0.cell (p:=⟨w.heap.size,1,none⟩) (Zaa c1)).trans c1;have HWT:=Hd hwt;have HMN:=Hd hmn;clear hst hwt hcl hmn;go_wp2_with fail;refine HARR.out.mono ?_;rintro y w3 ⟨rfl,o3,m3,V3,hst3,hwt3,hcl3,hc3,hmn3⟩;have HI0:Hid (SetI K q n wb mb 0 (.slice none 0 0) (.slice none 0 0) w3):=Hd ⟨[],2,rfl,by omega,o3,m3,V3,⟨by rw[HRME.out] at hst3;exact hst3,Zyh,⟨by rw[hwt3,HWT.out],trivial⟩,⟨Zqu _ _ _,fun k hk=>by cases hk⟩,⟨⟨[],rfl,Zqu _ _ _,fun i v hv=>by simp at hv⟩,fun k hk=>by cases hk⟩⟩,by have:=HMN.out;simp[two] at hmn3;omega⟩;have f2:=(hst3.chg.below0.cell (p:=⟨w.heap.size,2,none⟩) (Zaa c2)).trans c2;clear hst3 hwt3 hcl3 hc3 hmn3 HARR e0 e1;go_wp2_with fail
 go_loopw [8,9,40] (fun s8 s9 s40 wr=>∃ j:Nat,j<=q.es.length/\s40=.int .i64 j/\Hid (SetI K q n wb mb j s8 s9 wr)) (fun _ _ s40 _=>q.es.length-(intOf s40).toNat)
 case atStart=>exact⟨0,Nat.zero_le _,rfl,HI0⟩
 case round =>
  clear HI0 f2
  rename World=>wy
  obtain⟨j,hj,rfl,HI⟩:=hrel;obtain⟨hs,nx,hsnd,hnx,hle⟩:=HI.out;obtain⟨o0,m0,V0,hle0,hmn0⟩:=hle;have HLE:Hid (∃ o m V,LawT K n (OrdP q.order) (Zcd n) wb mb (two++hs) nx (fun ws c=>ws=[]/\True) hs hs wy o m V u8 u9/\m.d.pool.many<=2*2^n+j*(39*2^n+1)):=Hd ⟨o0,m0,V0,hle0,hmn0⟩;have hle1:=hle0.below0;have HLB0:=Hd hle1;have HSND:=Hd hsnd;have hhl:hs.length=j:=by have:=congrArg List.length hsnd;simpa [Nat.min_eq_left hj] using this
  clear HI hsnd hle0 hmn0 hle1 o0 m0 V0
  by_cases hlt:j<q.es.length
  ·
   have hjz:(j:Int)<q.es.length:=by omega
   have hb0:=HLB0.out;obtain⟨b,off,x0,x1,x2,ea,k0,k1,k2,hx⟩:=HAB.out.es.cells j hlt;subst ea;obtain⟨zo,zv,za,zn,zc,rfl,rfl,rfl⟩:=hx.parts;have HEX:=Hd (HSM.out.expr _ (List.getElem_mem hlt));have hsz40:=HEX.out.1;have hsz1:=ExT.size_pos q.es[j];obtain⟨e,he⟩:∃ e,e=q.es[j]:=⟨_,rfl⟩;rw[<- he] at hx HEX hsz40 hsz1;have HX:=Hd hx;have q0:=(hb0.cell (p:=⟨b,off+j*3,none⟩) (Zaa k0)).trans k0;have q1:=(hb0.cell (p:=⟨b,off+j*3+1,none⟩) (Zaa k1)).trans k1;have q2:=(hb0.cell (p:=⟨b,off+j*3+2,none⟩) (Zaa k2)).trans k2;have HTK:Hid ((q.es.take (j+1)).map fnT=(q.es.take j).map fnT++[fnT e]):=Hd (by rw[List.take_succ_eq_append_getElem hlt,List.map_append,he];rfl);obtain⟨wz,hwz⟩:∃ wz,wz=wy.alloc (.cells #[.int .i64 zo,.int .i64 zv,.slice za zn zc] 86):=⟨_,rfl⟩;have HWZ:Hid (_=wz):=Hd hwz.symm;have hbz:Below wy.heap.size wy wz:=by rw[hwz];exact Zad _ _
   have hblk:wz.heap[wy.heap.size]?=some (.cells #[.int .i64 zo,.int .i64 zv,.slice za zn zc] 86 (0,0)):=by rw[hwz];exact heap_alloc_new _ _
   have p0:wz.cell? ⟨wy.heap.size,0,none⟩=some (.int .i64 zo):=by rw[cell_of_row _ _ 0 _ _ _ hblk];rfl
   have p1:wz.cell? ⟨wy.heap.size,1,none⟩=some (.int .i64 zv):=by rw[cell_of_row _ _ 1 _ _ _ hblk];rfl
   have p2:wz.cell? ⟨wy.heap.size,2,none⟩=some (.slice za zn zc):=by rw[cell_of_row _ _ 2 _ _ _ hblk];rfl
   obtain⟨o4,m4,V4,lt0,mn4⟩:=HLE.out;have lt4:=lt0.below hbz;have n4:o4 wy.heap.size=none:=lt0.sat.lt.none (Nat.le_refl _);have hlk:∀ g,u8.ownBlock=some g->g<wy.heap.size:=fun g hg=>(lt0.l.own.lt g hg).2
   have hll:(two++hs).length=2+j:=by simp[two,hhl];omega
   have HCALL:=Hd (Zni hK e _ (two++hs) nx wz o4 m4 V4 _ lt4.sat ⟨lt4.st.1,mn4⟩ lt4.b2 HEX.out.2.1.valid (by have:=HEX.out.2.2;rw[HQN.out] at this;exact this) hx (by omega) (Zsp hn1 hsz40 (by omega)));have HLT4:=Hd lt4;clear hb0 k0 k1 k2 hx hbz hblk hwz lt4 HLE he lt0;go_upto_region 9 with fail;rw[HWZ.out];clear q0 q1 q2;go_wp2_with fail;refine HCALL.out.mono ?_;rintro y w5 ⟨k,rfl,hk,o5,m5,V5,hc5,⟨hw5,hmn5⟩,hs5⟩;have HMN5:Hid (m5.d.pool.many<=2*2^n+(j+1)*(39*2^n+1)):=Hd (Zsq hsz40 hsz1 hmn5);have HLT5:Hid (LawT K n (OrdP q.order) (Zcd n) wb mb (two++(hs++[(k,fnT e)])) (k+1) (fun ws c=>ws=[]/\True) hs hs w5 o5 m5 V5 u8 u9):=Hd (HLT4.out.go (by rw[<- List.append_assoc];exact hs5) (Zyh.app _) ⟨hw5,trivial⟩ hc5);have r0:=hc5.cell (p:=⟨wy.heap.size,0,none⟩) p0 n4 (fun e=>e);have r1:=hc5.cell (p:=⟨wy.heap.size,1,none⟩) p1 n4 (fun e=>e);have r2:=hc5.cell (p:=⟨wy.heap.size,2,none⟩) p2 n4 (fun e=>e);have n5:=hc5.none' (Zaa p0) n4;have hsz5:wb.heap.size<=w5.heap.size:=hs5.chg.size;clear hc5 hw5 hs5 hmn5 HCALL p0 p1 p2 HLT4;go_upto_region 13 with (at_builtin;refine Zcx Zl9 _ rfl _ _ rfl wb.heap.size _ (Zbh (hs.map Prod.fst)) _ rfl rfl rfl rfl rfl (by exact HLT5.out.l.own) (by simp[Zbh];omega) hsz5 ?_;intro v6 w6 hown6 g1 g2 g3 g4 hk6)
   have hw6:=Zra g1 g2 g3 g4 hk6;have hk6':w6.heap[wy.heap.size]?=w5.heap[wy.heap.size]?:=hw6.keep _ (Zaa r0) (fun e=>by have:=hlk _ e;omega);have t0:=(World.cell?_of_block (w:=w5) (a:=⟨wy.heap.size,0,none⟩) hk6').trans r0;have t1:=(World.cell?_of_block (w:=w5) (a:=⟨wy.heap.size,1,none⟩) hk6').trans r1;have t2:=(World.cell?_of_block (w:=w5) (a:=⟨wy.heap.size,2,none⟩) hk6').trans r2;have HLT6:=Hd (HLT5.out.appL hown6 g1 g2 g3 g4 hk6 (p:=(k,fnT e)));have a0:=(HLT6.out.below0.cell (p:=⟨w.heap.size,0,none⟩) (Zaa c0)).trans c0;have HTB:=Hd (Ze4 e _ n (by omega) w6 (by omega) HEX.out.2.1 (HX.out.below HLT6.out.below0));clear hw6 hk6' hown6 g1 g2 g3 g4 hk6 r0 r1 r2 HLT5 hlk;go_wp2_with fail;refine HTB.out.mono ?_;rintro y w7 ⟨v7,rfl,hown7,hb7⟩;obtain⟨av,cv,rfl,_⟩:=hown7.slice;have HLB:Hid (LawB w7 o5 wb.heap.size (.slice av (Zbz (tabB n (fnT e))).length cv) (tabB n (fnT e))):=Hd (Zwv (n:=n) hown7 (by rw[Zeo];exact Zvw (by omega)) HLT6.out.sat.lt HLT6.out.sat.chg.size);have HLT7:=Hd (HLT6.out.below hb7);obtain⟨rs,hrs1,hrs2,hrs3⟩:=HLT7.out.x.ex;have HR2:=Hd hrs2;have HR3:=Hd hrs3;have hrl:rs.length=hs.length:=by rw[hrs1];simp
   have hsz7:wb.heap.size<=w7.heap.size:=HLT7.out.sat.chg.size;clear hown7 hb7 hrs2 hrs3 HTB HLT6 t0 t1 t2 a0;go_upto_region 14 with (at_builtin;refine Zcx Zy2 _ rfl _ _ rfl wb.heap.size _ rs _ rfl rfl rfl rfl rfl (by exact HR2.out) (by omega) hsz7 ?_;intro v8 w8 hown8 g1 g2 g3 g4 hk8)
   have HLT8:=Hd (HLT7.out.appX HLB.out rfl hrl HR2.out HR3.out hown8 g1 g2 g3 g4 hk8 (p:=(k,fnT e)));have HIN:Hid (SetI K q n wb mb (j+1) v6 v8 w8):=Hd ⟨hs++[(k,fnT e)],k+1,by rw[List.map_append,HSND.out,HTK.out];rfl,by omega,o5,m5,V5,HLT8.out,HMN5.out⟩;clear hown8 g1 g2 g3 g4 hk8 HR2 HR3 HLT7 HLB HLT8;go_wp2_with fail;go_roundw
   case rel=>exact⟨j+1,by omega,by go_num,HIN⟩
   case measure=>simp[intOf];omega
  ·
   have hje:j=q.es.length:=by omega
   have hjz:¬ (j:Int)<q.es.length:=by omega
   obtain⟨o4,m4,V4,lt4,mn4⟩:=HLE.out;have HMN4:=Hd mn4;clear mn4;have e3:=(lt4.below0.cell (p:=⟨w.heap.size,3,none⟩) (Zaa c3)).trans c3;have hw4:m4.waits=[]:=lt4.st.1;have hcode:Zeu n m4.waits.length q.plan=0:=by
    rw[hw4];have:=HSM.out.planOk;rw[HQN.out] at this;exact this
   have HPL:=Hd (Zpz lt4.sat (c:=cp) (HAB.out.plan.below lt4.below0) (fun h0 x hx=>by
    obtain⟨b,off,e,hc,_⟩:=HAB.out.plan.cells 0 h0;rw[hx] at e;cases e;exact lt4.sat.none0 (Zaa hc)) (by rw[hw4];simp))
   rw[hcode] at HPL;have HLT4:=Hd lt4;have HW4:=Hd hw4;clear lt4 hw4 hcode HLE;go_wp2_with fail;refine HPL.out.mono ?_;rintro y w5 ⟨rfl,o5,m5,hpd⟩
   have HF:Hid (Q (.returned (.tuple #[.pointer (some ⟨mb,0,none⟩),u8,u9,.bool true])) w5):=Hd (by
    rw[HQ.out];refine⟨mb,u8,u9,wb,hs,nx,rfl,HBW.out,by rw[HSND.out,hje,List.take_length],by omega,o5,m5,V4,HLT4.out.go hpd.sat HLT4.out.b2 ?_ (ChgX.of_chg hpd.chg NoB),?_⟩
    rotate_left
    ·
     rw[hpd.d];exact Zxe (by omega) HMN4.out
    have:=hpd.yes rfl;rw[HW4.out] at this;exact⟨by simpa using this.1,by simpa using this.2⟩)
   clear hpd HPL;go_wp2_with fail;refine bodyPost_ret (Zcu rfl _ _ _) rfl ?_;exact HF.out
open Go.RowKit
theorem Zlc (v:Nat) (w:World):Calls Tryz.prog 112 #[.int .i64 v] w fun y w'=>y=.returned (.agg #[.int .i64 3,.int .i64 v,.slice none 0 0])/\Below w.heap.size w w':=by
 obtain⟨w1,hw1⟩:∃ w1,w1=w.alloc (.cells #[.int .i64 3,.int .i64 v,.slice none 0 0] 86):=⟨_,rfl⟩;have hb1:Below w.heap.size w w1:=by rw[hw1];exact Zad _ _
 have hx1:w1.heap[w.heap.size]?=some (.cells #[.int .i64 3,.int .i64 v,.slice none 0 0] 86 (0,0)):=by rw[hw1];exact heap_alloc_new _ _
 have d0:w1.cell? ⟨w.heap.size,0,none⟩=some (.int .i64 3):=by rw[cell_of_row _ _ 0 _ _ _ hx1];rfl
 have d1:w1.cell? ⟨w.heap.size,1,none⟩=some (.int .i64 v):=by rw[cell_of_row _ _ 1 _ _ _ hx1];rfl
 have d2:w1.cell? ⟨w.heap.size,2,none⟩=some (.slice none 0 0):=by rw[cell_of_row _ _ 2 _ _ _ hx1];rfl
 have HW1:Hid (_=w1):=Hd hw1.symm;have HB1:=Hd hb1;have HX1:=Hd hx1;clear hw1 hb1 hx1
 go_enter Tryz.func112,Tryz.ntmps112
 go_wp2_with fail;rw[HW1.out];refine bodyPost_ret (v:=.agg #[.int .i64 3,.int .i64 v,.slice none 0 0]) ?_ rfl ⟨rfl,HB1.out⟩;exact results_cell_row rfl _ w1 w.heap.size _ #[.int .i64 3,.int .i64 v,.slice none 0 0] (0,0) _ rfl HX1.out Tryz.underlying86 rfl (by kernel_rfl)
def exA:ExT:=.mk 5 0 2 fun i=>.mk 3 (i:Nat) 0 fun _=>.nil
theorem Zwh:exA.size=3:=rfl
theorem Zz9 (ρ:Nat->Bool):fnT exA ρ=(ρ 0&&ρ 1):=by
 show decide (cntT 2 (fun i=>ρ ((i:Nat):Int).toNat)=2)=(ρ 0&&ρ 1)
 rw[Zqg];rw[Bool.eq_iff_iff,decide_eq_true_iff]
 show (if ρ 0 then 1 else 0)+(if ρ 1 then 1 else 0)=2↔_
 cases ρ 0<;>cases ρ 1<;>simp
theorem Zwi:Zbe exA=[0,1]:=rfl
theorem Yab:okT exA 1:=by
 refine⟨by omega,by decide,fun h=>absurd h (by decide),fun _=>rfl,by decide,by decide,fun i hi=>?_⟩;refine⟨by omega,by decide,fun _=>⟨by omega,by omega⟩,fun h=>absurd rfl h,by decide,by decide,fun j hj=>by omega⟩
def exC:Array Value:=#[.int .i64 3,.int .i64 0,.slice none 0 0,.int .i64 3,.int .i64 1,.slice none 0 0]
theorem Yaa {w:World} {b:Nat} (h:w.heap[b]?=some (.cells exC 86 (0,0))):Zbg (fun k=>k=b) w exA (.agg #[.int .i64 5,.int .i64 0,.slice (some ⟨b,0,none⟩) 2 2]):=by
 refine⟨_,_,rfl,by unfold okI;omega,by unfold okI;omega,by omega,fun k hk=>?_⟩;have hc:∀ j u,exC[j]?=some u->w.cell? ⟨b,j,none⟩=some u:=fun j u hj=>by rw[cell_of_row _ _ j _ _ _ h];exact hj
 rcases(show k=0\/k=1 by omega) with rfl|rfl
 ·
  exact⟨b,0,_,_,_,rfl,rfl,hc _ _ rfl,hc _ _ rfl,hc _ _ rfl,_,_,rfl,by unfold okI;omega,by unfold okI;omega,by omega,fun j hj=>by omega⟩
 ·
  exact⟨b,0,_,_,_,rfl,rfl,hc _ _ rfl,hc _ _ rfl,hc _ _ rfl,_,_,rfl,by unfold okI;omega,by unfold okI;omega,by omega,fun j hj=>by omega⟩
abbrev L14 (w:World) (mb:Nat) (fs:List (Int×BF)) (nx:Int) (W:World):Prop:=StG Zhy 2 400 w mb fs nx [] W
def l14A:List (Int×BF):=two++[(2,varF 1)]
def l14B:List (Int×BF):=l14A++[(3,fnT exA)]
def l14C:List (Int×BF):=l14B++[(4,Zns (fnT exA) (varF 1))]
def l14D:List (Int×BF):=l14C++[(5,Zim orF (Zd7 1) [])]
theorem Zt2:impF (fnT exA) (varF 1)=Zd7 0:=by
 funext ρ
 show iteB (fnT exA ρ) (ρ 1) true=true
 rw[Zz9];cases ρ 0<;>cases ρ 1<;>rfl
theorem Zwg:Zns (fnT exA) (varF 1)=fun _=>false:=(Zwp _ _).1 Zt2
theorem Zel (w:World):Calls Tryz.prog 48 #[] w fun x w'=>x=.returned (.bool true)/\Below w.heap.size w w':=by
 have HNEW:=Hd (Zqo (K:=Zhy) 2 400 w (by omega) (by omega) (by omega));have HV:Hid (∀ mb W,L14 w mb two 2 W->Calls Tryz.prog 20 #[.pointer (some ⟨mb,0,none⟩),.int .i64 1] W fun x w''=>x=.returned (.tuple #[.int .i64 2,.int .i64 0])/\L14 w mb l14A 3 w'') :=
  Hd fun mb W g=>g.var Zek (by omega) (by decide) (v:=1) (by omega)
 have HVR:=Hd (fun v W=>Zlc v W);have HOF:Hid (∀ mb W,L14 w mb l14A 3 W->∀ W2,W2=W.alloc (.cells exC 86)->Calls Tryz.prog 54 #[.pointer (some ⟨mb,0,none⟩),.agg #[.int .i64 5,.int .i64 0,.slice (some ⟨W.heap.size,0,none⟩) 2 2]] W2 fun x w''=>x=.returned (.tuple #[.int .i64 3,.int .i64 0])/\L14 w mb l14B 4 w'') :=
  Hd fun mb W ⟨o,m,V,h1,h2⟩ W2 hW2=>by
   have hb:Below W.heap.size W W2:=by rw[hW2];exact Zad _ _
   have hblk:W2.heap[W.heap.size]?=some (.cells exC 86 (0,0)):=by rw[hW2];exact heap_alloc_new _ _
   refine(Yal Zek (h2.below hb) (by omega) (by rw[Zwh];omega) (Yaa hblk) (fun k hk=>by subst hk;exact⟨(Array.getElem?_eq_some_iff.1 hblk).1,h2.lt.none (Nat.le_refl _)⟩) Yab h1 (by omega) (by decide)).mono ?_;rintro x w' ⟨_,h3⟩;obtain⟨q1,o',m',V',_,q2,q3⟩:=h3 (by rw[Zwi];simp);exact⟨q1,o',m',V',q2,q3⟩
 have HWI:Hid (∀ mb W,L14 w mb l14B 4 W->Calls Tryz.prog 52 #[.pointer (some ⟨mb,0,none⟩),.int .i64 3,.int .i64 2] W fun x w''=>x=.returned (.tuple #[.bool true,.int .i64 0])/\L14 w mb l14B 4 w'') :=
  Hd fun mb W ⟨o,m,V,h1,h2⟩=>(Zsy Zek h2 (F1:=fnT exA) (F2:=varF 1) (by simp[l14B]) (by simp[l14B,l14A]) (b:=true) (by simp[Zt2]) h1 (by omega) (by decide)).mono (by
   rintro x w' ⟨q1,o',m',V',_,q2,q3⟩;exact⟨q1,o',m',V',q2,q3⟩)
 have HDI:Hid (∀ mb W,L14 w mb l14B 4 W->Calls Tryz.prog 113 #[.pointer (some ⟨mb,0,none⟩),.int .i64 3,.int .i64 2] W fun x w''=>x=.returned (.tuple #[.int .i64 4,.int .i64 0])/\L14 w mb l14C 5 w'') :=
  Hd fun mb W ⟨o,m,V,h1,h2⟩=>(Zw7 Zek h2 (F1:=fnT exA) (F2:=varF 1) (by simp[l14B]) (by simp[l14B,l14A]) h1 (by omega) (by decide)).mono (by
   rintro x w' ⟨q1,o',m',V',_,q2,q3⟩;exact⟨q1,o',m',V',q2,q3⟩)
 have HOR:Hid (∀ mb W,L14 w mb l14C 5 W->Calls Tryz.prog 114 #[.pointer (some ⟨mb,0,none⟩),.slice none 0 0] W fun x w''=>x=.returned (.tuple #[.int .i64 5,.int .i64 0])/\L14 w mb l14D 6 w'') :=
  Hd fun mb W ⟨o,m,V,h1,h2⟩=>(Yar (c:=0) (a:=none) (ks:=[]) (Fs:=[]) Zek h2 ⟨⟨by decide,fun i hi=>absurd hi (Nat.not_lt_zero i)⟩,(fun x hx=>by cases hx),rfl,fun i hi=>absurd hi (Nat.not_lt_zero i)⟩ h1 (by omega) (by decide)).mono (by
   rintro x w' ⟨q1,o',m',V',_,q2,q3⟩;exact⟨q1,o',m',V',q2,q3⟩)
 have HS4:Hid (∀ mb W,L14 w mb l14D 6 W->Calls Tryz.prog 22 #[.pointer (some ⟨mb,0,none⟩),.int .i64 4,.int .i64 0] W fun x w''=>x=.returned (.tuple #[.bool true,.int .i64 0])/\W=w'') :=
  Hd fun mb W g=>(g.same (k:=4) (l:=0) (F:=Zns (fnT exA) (varF 1)) (G:=fun _=>false) (by simp[l14D,l14C]) (by simp[l14D,l14C,l14B,l14A,two])).mono (by
   rintro x w' ⟨⟨b,q1,q2⟩,q3⟩;rw[q1,q2.2 Zwg];exact⟨rfl,q3⟩)
 have HS5:Hid (∀ mb W,L14 w mb l14D 6 W->Calls Tryz.prog 22 #[.pointer (some ⟨mb,0,none⟩),.int .i64 5,.int .i64 0] W fun x w''=>x=.returned (.tuple #[.bool true,.int .i64 0])/\W=w'') :=
  Hd fun mb W g=>(g.same (k:=5) (l:=0) (F:=Zim orF (Zd7 1) []) (G:=fun _=>false) (by simp[l14D]) (by simp[l14D,l14C,l14B,l14A,two])).mono (by
   rintro x w' ⟨⟨b,q1,q2⟩,q3⟩;rw[q1,q2.2 (by funext ρ;rfl)];exact⟨rfl,q3⟩)
 have HHN:Hid (∀ mb W,L14 w mb l14D 6 W->Calls Tryz.prog 61 #[.pointer (some ⟨mb,0,none⟩)] W fun x w''=>x=.returned (.int .i64 6)/\W=w'') :=
  Hd fun mb W g=>g.handles
 go_enter Tryz.func48,Tryz.ntmps48
 go_wp2_with fail;refine HNEW.out.mono ?_;rintro x w1 ⟨mb,rfl,o,m,V,hst,hwt,_,hmn⟩;have H1:=Hd (HV.out mb w1 ⟨o,m,V,by rw[hwt];exact List.suffix_refl _,hst⟩);clear hst hwt hmn HNEW HV;go_wp2_with fail;refine H1.out.mono ?_;rintro x w2 ⟨rfl,h2⟩;have H2:=Hd h2;clear h2 H1;go_wp2_with fail;refine(HVR.out 0 _).mono ?_;rintro x w3 ⟨rfl,hb3⟩;have H3:=Hd (H2.out.below hb3);clear hb3 H2;go_wp2_with fail;refine(HVR.out 1 _).mono ?_;rintro x w4 ⟨rfl,hb4⟩;have H4:=Hd (H3.out.below hb4);clear hb4 H3 HVR;have HO:=Hd (HOF.out _ _ H4.out _ rfl);clear HOF;unfold exC at HO;go_wp2_with fail;refine HO.out.mono ?_;rintro x w5 ⟨rfl,h5⟩;have H5:=Hd (HWI.out _ _ h5);clear h5 HO H4 HWI;go_wp2_with fail;refine H5.out.mono ?_;rintro x w6 ⟨rfl,h6⟩;have H6:=Hd (HDI.out _ _ h6);clear h6 H5 HDI;go_wp2_with fail;refine H6.out.mono ?_;rintro x w7 ⟨rfl,h7⟩;have H7:=Hd (HOR.out _ _ h7);clear h7 H6 HOR;go_wp2_with fail;refine H7.out.mono ?_;rintro x w8 ⟨rfl,h8⟩;have H8:=Hd h8;have H8a:=Hd (HS4.out _ _ h8);have H8b:=Hd (HS5.out _ _ h8);have H8c:=Hd (HHN.out _ _ h8);clear h8 H7 HS4 HS5 HHN;go_wp2_with fail;refine H8a.out.mono ?_;rintro x w' ⟨rfl,rfl⟩;go_wp2_with fail;refine H8b.out.mono ?_;rintro x w' ⟨rfl,rfl⟩;go_wp2_with fail;refine H8c.out.mono ?_;rintro x w' ⟨rfl,rfl⟩;go_wp2_with fail;go_ret;exact⟨rfl,H8.out.below0⟩
open Go.RowKit
theorem Zxf {n l r:Nat} (h:l+r<=192) {k:Nat} (hk:k<=r*2^n):l*2^n+k<=Zcd n:=by
 have h1:=Zhl (n:=n) h;rw[Nat.add_mul] at h1;omega
open Go.RowKit
section
variable {K:Law} {n:Nat} {Od:List Nat->Prop} {room:Nat} {w0:World} {mb:Nat} {fs:List (Int×BF)} {nx:Int} {Wt:List Ev->Int->Prop} {hs:List (Int×BF)} {W:World} {o:Own} {m:ManD} {V:Nat->BF} {vl vx:Value}
end
open Go.RowKit
section
variable {P:Program} {ops:Array Oper} {S:World->Prop} {Q:Exit->Act->World->Prop} {last:Bool}
end
section
variable {K:Law} {n:Nat} {Od:List Nat->Prop} {room:Nat} {w0:World} {mb:Nat} {fs hs hl hx:List (Int×BF)} {nx:Int} {Wt:List Ev->Int->Prop} {W w w':World} {o o':Own} {m m':ManD} {V V':Nat->BF} {vl vx:Value}
end
open Go.RowKit
def StF (K:Law) (n room:Nat) (w0:World) (mb:Nat) (fs:List (Int×BF)) (nx:Int) (ws0:List Ev) (rs:List (Value×BF)) (W:World):Prop:=∃ o m V,m.waits <:+ ws0/\SatE K n (fun _=>True) room w0 mb fs nx W o m V/\∀ p∈rs,LawF W o p.1 (tabB n p.2)
section
variable {K:Law} {n room:Nat} {w0 w W w':World} {mb:Nat} {fs fs':List (Int×BF)} {nx nx':Int} {o:Own} {m:ManD} {V:Nat->BF} {ws0:List Ev} {rs:List (Value×BF)} {f:Nat} {args:Array Value}
theorem StF.below (h:StF K n room w0 mb fs nx ws0 rs w) (hb:Below w.heap.size w w'):StF K n room w0 mb fs nx ws0 rs w':=by
 obtain⟨o,m,V,h1,h2,h3⟩:=h;exact⟨o,m,V,h1,h2.below hb,fun p hp=>(h3 p hp).chg (Zcr hb o)⟩
theorem StF.below0 (h:StF K n room w0 mb fs nx ws0 rs w):Below w0.heap.size w0 w:=by
 obtain⟨o,m,V,h1,h2,_⟩:=h;exact h2.chg.below0
theorem StF.ask {R:Ending->World->Prop} (h:StF K n room w0 mb fs nx ws0 rs w) (hc:∀ o m V,SatE K n (fun _=>True) room w0 mb fs nx w o m V->Calls Tryz.prog f args w R):Calls Tryz.prog f args w R:=by
 obtain⟨o,m,V,_,h2,_⟩:=h;exact hc o m V h2
theorem StF.of (hw:m.waits <:+ ws0) (h:SatE K n (fun _=>True) room w0 mb fs nx w o m V) (hr:∀ p∈rs,LawF w o p.1 (tabB n p.2)):StF K n room w0 mb fs nx ws0 rs w:=⟨o,m,V,hw,h,hr⟩
end
open Go.RowKit
section
variable {K:Law} {n:Nat} {Od:List Nat->Prop} {room:Nat} {w0:World} {mb:Nat} {fs:List (Int×BF)} {nx:Int} {Wt:List Ev->Int->Prop} {hs:List (Int×BF)} {W:World} {o:Own} {m:ManD} {V:Nat->BF} {vl vx:Value}
end
section
variable {K:Law} {n room:Nat} {w0 w W w':World} {mb:Nat} {fs fs':List (Int×BF)} {nx nx':Int} {o:Own} {m:ManD} {V:Nat->BF} {ws0:List Ev} {rs:List (Value×BF)} {f:Nat} {args:Array Value}
end
end Go.Proofs.YtmofaapnkidioaaGreat
