/- Several texts in one file: contracts of the program's functions and what follows from them. -/
import Derived.Test.YtlgogjbkadckkaaGreatRows
import Derived.WalkKit
import Derived.WalkSpells
import Derived.WalkLawsBesides
import Derived.Lib.Hide
import Derived.BigQuiet
import Derived.Deep.QuietTactic
import Derived.Deep.LoopGhost
import Derived.Deep.RegionWith
import Derived.Laws.CopyOwn
import Derived.Laws.AppendOwnNone
import Derived.Maps.AppendAt
import Derived.OwnWalk
import Derived.Laws.Bits64
import Derived.OrdersHeld
import Derived.KernelRfl
import Derived.Deep.CutBlock
import Derived.Deep.DeepCutAuto
import Derived.MapKept
import Derived.ChangeKeysEq
import Derived.Maps.OwnSet
import Derived.Laws.MakeOwn
set_option linter.unusedSimpArgs false
set_option linter.unusedVariables false
set_option linter.unusedSectionVars false
set_option linter.unnecessarySimpa false
set_option maxRecDepth 100000
set_option maxHeartbeats 8000000
namespace Go.Proofs.YtlgogjbkadckkaaGreat
open Go.RowKit
theorem Hd{p:Prop}(h:p):Hid p:=Lib.hid h

theorem Zag:(∀ (a:Act) (d:Tmp) (v:Value),a.put (some d) v={ a with tmps:=a.tmps.setIfInBounds d v })/\(∀ (a:Act) (v:Value),a.put none v=a)/\(∀ (l:List Value) (i:Nat) (x:Value),l.toArray.setIfInBounds i x=(l.set i x).toArray)/\(∀ (l:List Value) (x y:Value),(x::l).set 0 y=y::l)/\(∀ (l:List Value) (n:Nat) (x y:Value),(x::l).set (n+1) y=x::l.set n y) :=
 ⟨fun _ _ _=>rfl,fun _ _=>rfl,fun _ _ _=>List.setIfInBounds_toArray ..,fun _ _ _=>rfl,fun _ _ _ _=>rfl⟩
theorem Zg7:(∀ (l:List Oper) (x:Oper),(x::l)[0]?=some x)/\(∀ (l:List Oper) (n:Nat) (x:Oper),(x::l)[n+1]?=l[n]?)/\(∀ x y:Oper,(some x=some y)=(x=y)) :=
 ⟨fun _ _=>rfl,fun _ _ _=>rfl,fun x y=>Option.some.injEq x y⟩
theorem Zhu:(∀ (l:List Nat) (a b:Nat),(a∈b::l)=(a=b\/a∈l))/\(∀ a:Nat,(a∈([]:List Nat))=False)/\(∀ p:Prop,(p\/False)=p) :=
 ⟨fun _ _ _=>propext List.mem_cons,fun _=>eq_false List.not_mem_nil,fun p=>or_false p⟩
theorem Zd8:(∀ (f:Nat×Bool->Option Oper×Bool) (a:Nat×Bool) (l:List (Nat×Bool)),(a::l).map f=f a::l.map f)/\(∀ f:Nat×Bool->Option Oper×Bool,[].map f=[])/\(∀ (l:List Oper) (n:Nat) (x:Oper),(x::l)[n+1]?=l[n]?)/\(∀ (l:List Oper) (x:Oper),(x::l)[0]?=some x) :=
 ⟨fun _ _ _=>rfl,fun _=>rfl,fun _ _ _=>rfl,fun _ _=>rfl⟩
open Go.Maps
theorem Zrs {a b:Int} (h:a=b):Ending.returned (.int .i64 a)=.returned (.int .i64 b):=by rw[h]
theorem Zde {a b:Bool} (h:a=b):Ending.returned (.bool a)=.returned (.bool b):=by rw[h]
theorem Zbi {B:Nat} {a w:World} (h:Below B a w) (n:Nat):Below B a (w.drewN n):=Go.below_drewN h n
def at0 (zs:List Int) (k:Nat):Int:=zs.getD k 0
theorem Zb0 {zs:List Int} {k:Nat} (h:k<zs.length):at0 zs k=zs[k]:=by simp[at0,List.getD,h]
theorem getElem?_at0 {zs:List Int} {k:Nat} (h:k<zs.length):zs[k]?=some (at0 zs k):=by rw[Zb0 h];exact List.getElem?_eq_getElem h
def Za7 (zs:List Int):List Value:=zs.map (Value.int .i64)
theorem Zf5 (zs:List Int):(Za7 zs).length=zs.length:=by simp[Za7]
structure Zay (w:World) (a:Option Addr) (zs:List Int):Prop where
 len:zs.length<=9223372036854775807
 cells:∀ k,k<zs.length->∃ b off,a=some ⟨b,off,none⟩/\w.cell? ⟨b,off+k,none⟩=some (.int .i64 (at0 zs k))
theorem Zab {w:World} {p:Addr} {v:Value} (h:w.cell? p=some v):p.block<w.heap.size:=World.block_lt_of_cell? w p h
theorem Zay.below {w w':World} {a:Option Addr} {zs:List Int} (h:Zay w a zs) (hb:Below w.heap.size w w'):Zay w' a zs :=
 ⟨h.len,fun k hk=>by
  obtain⟨b,off,rfl,hc⟩:=h.cells k hk;exact⟨b,off,rfl,by rw[hb.cell (p:=⟨b,off+k,none⟩) (Zab hc)];exact hc⟩⟩
def Zvg (w:World) (v:Value) (zs:List Int):Prop:=∃ a c,v=.slice a zs.length c/\Zay w a zs
theorem Zg1 {w:World} {base e n:Nat} {a:Option Addr} {c:Nat} {zs:List Int} (hl:zs.length<=9223372036854775807)
 (h:w.ownsRow base e 1 (.slice a n c) n (Za7 zs)):Zay w a zs:=by
 refine⟨hl,fun k hk=>?_⟩;rcases h.2 with ⟨hv,h0⟩|⟨g,cap,cur,hv,_⟩
 ·
  have:=h.1;rw[Zf5] at this;omega
 ·
  simp only[Value.slice.injEq] at hv;obtain⟨rfl,_,rfl⟩:=hv;refine⟨g,0,rfl,?_⟩;have h1:=h.1;rw[Zf5] at h1;have:=h.cellAt k (by omega);rw[Nat.zero_add,this,Za7,List.getElem?_map,getElem?_at0 hk];rfl
theorem Zk3 {w:World} {base e:Nat} {v:Value} {zs:List Int} (hl:zs.length<=9223372036854775807)
 (h:w.ownsRow base e 1 v zs.length (Za7 zs)):Zvg w v zs:=by
 rcases h.2 with ⟨rfl,h0⟩|⟨g,cap,cur,rfl,_⟩
 ·
  have:zs=[]:=List.eq_nil_of_length_eq_zero h0;subst this;exact⟨none,0,rfl,by simp,by simp⟩
 ·
  exact⟨_,_,rfl,Zg1 hl h⟩
def OwnI (w:World) (base:Nat) (v:Value) (zs:List Int):Prop:=w.ownsRow base 3 1 v zs.length (Za7 zs)
theorem OwnI.alloc {w:World} {base:Nat} {v:Value} {zs:List Int} (h:OwnI w base v zs) (o:Obj):OwnI (w.alloc o) base v zs:=World.ownsRow.alloc h o
theorem OwnI.drewN {w:World} {base:Nat} {v:Value} {zs:List Int} (h:OwnI w base v zs) (n:Nat):OwnI (w.drewN n) base v zs:=h
theorem OwnI.below {w w':World} {base:Nat} {v:Value} {zs:List Int} (h:OwnI w base v zs) (hb:Below w.heap.size w w'):OwnI w' base v zs:=by
 refine World.ownsRow.kept (row:=none) h ⟨hb.os,hb.tape,hb.output,hb.size,fun k hk _=>hb.block k hk⟩ ?_;cases v.ownBlock<;>simp
theorem OwnI.lt {w:World} {base:Nat} {v:Value} {zs:List Int} (h:OwnI w base v zs):∀ k,v.ownBlock=some k->base<=k/\k<w.heap.size:=World.ownsRow.lt h
theorem OwnI.sliceOf {w:World} {base:Nat} {v:Value} {zs:List Int} (h:OwnI w base v zs) (hl:zs.length<=9223372036854775807):Zvg w v zs:=Zk3 hl h
theorem Zjr (w:World) (base:Nat) (hb:base<=w.heap.size):OwnI (w.alloc (.cells #[] 3)) base (.slice (some ⟨w.heap.size,0,none⟩) 0 0) [] :=
 World.ownsRow_made w #[] 0 hb (by unfold maxLen;omega) (by simp)
theorem Zh2 (w:World) (base:Nat):OwnI w base (.slice none 0 0) []:=World.ownsRow_nil w base 3 1
def Zes (row:Option Nat) (w w':World):Prop:=∀ k,k<w.heap.size->some k≠row->w'.heap[k]?=w.heap[k]?
theorem Zfq {row:Option Nat} {w w':World} {o:Obj} (h:(w.alloc o).grownBy w' row):Zes row w w':=fun k hk hne=>by
 rw[h.block k (by simp;omega) hne,Go.heap_alloc_old w o hk]
theorem Zco {row:Option Nat} {w w':World} (h:w.grownBy w' row):Zes row w w':=fun k hk hne=>h.block k hk hne
theorem Zpo (row:Option Nat) (w:World):Zes row w w:=fun _ _ _=>rfl
theorem Zay.keep {row:Option Nat} {w w':World} {a:Option Addr} {zs:List Int} (h:Zay w a zs) (hk:Zes row w w') (hne:∀ x,a=some x->some x.block≠row):Zay w' a zs :=
 ⟨h.len,fun k hk'=>by
  obtain⟨b,off,rfl,hc⟩:=h.cells k hk';exact⟨b,off,rfl,(World.cell?_of_block (w:=w) (a:=⟨b,off+k,none⟩) (hk b (Zab hc) (hne _ rfl))).trans hc⟩⟩
theorem OwnI.keep {row:Option Nat} {w w':World} {base:Nat} {v:Value} {zs:List Int} (h:OwnI w base v zs) (hk:Zes row w w') (hne:∀ k,v.ownBlock=some k->some k≠row):OwnI w' base v zs:=by
 refine⟨h.1,?_⟩;rcases h.2 with hn|⟨g,cap,cur,rfl,hb,hgg,rest⟩
 ·
  exact .inl hn
 ·
  refine .inr ⟨g,cap,cur,rfl,hb,?_,rest⟩;rw[hk g (Array.getElem?_eq_some_iff.1 hgg).1 (hne g rfl)];exact hgg
structure Zft (v v':Value) (w w':World):Prop where
 keep:Zes v.ownBlock w w'
 loc:v'.ownBlock=v.ownBlock\/∃ k,v'.ownBlock=some k/\w.heap.size<=k
theorem Zft.ne {v v':Value} {w w':World} (h:Zft v v' w w') {g:Nat} (hne:v.ownBlock≠some g) (hg:g<w.heap.size):v'.ownBlock≠some g:=by
 rcases h.loc with e|⟨k,e,hk⟩
 ·
  rw[e];exact hne
 ·
  rw[e];intro hh;cases hh;omega
theorem Zii:(Tryz.prog.info? 3).map (fun i=>(i.zero,i.size,i.bytes))=some (some (.int .i64 0),1,8):=by kernel_rfl
theorem Zcj (wr:World) {ops:Array Oper} {rest:List Oper} {o:Oper} {a:Act} {Q:Exit->Act->World->Prop} {W:World} (hgd:o.guard=none) (s x:Operand)
 (ho:o.op=.call { callee:=.builtin .append,args:=#[s,x],argTypes:=#[22,22] })
 (base:Nat) (w0:World) (v:Value) (zs:List Int) (y:Int) (hs:a.eval s=v) {N:Nat} (hx:a.eval x=.slice (some ⟨N,0,none⟩) 1 1)
 (hW:W=wr.alloc (.cells #[.int .i64 y] 3)) (hN:N=wr.heap.size)
 (hown:OwnI wr base v zs) (hlen:zs.length<1099511627776) (hbase:base<=wr.heap.size) (hb:Below base w0 wr)
 (h:∀ v' w',OwnI w' base v' (zs++[y])->Below base w0 w'->base<=w'.heap.size->Zft v v' wr w'->wpList Tryz.prog ops Q rest (a.put o.dst v') w') :
 wpList Tryz.prog ops Q (o::rest) a W:=by
 obtain⟨i,hi,hz,hsz,hby⟩:=info_parts Zii;subst hN;subst hW
 refine wpList_append_own_at (w:=wr.alloc (.cells #[.int .i64 y] 3)) hgd s x 22 ho base 3 i (.int .i64 0) 1 8 Tryz.underlying22 hi hz hsz hby rfl (by decide)
  v zs.length (Za7 zs) hs (hown.alloc _) ⟨wr.heap.size,0,none⟩ 1 1 [.int .i64 y] hx rfl (cell_one_new _ _ _) (ints_oneCell .i64 [y]) (by unfold maxLen;omega) (by omega) (by simp;omega) ?_
 intro v' w' h1 h2 _ hloc;refine h v' w' ?_ ?_ ?_ ⟨Zfq h2,hloc.imp id fun e=>⟨_,e,by simp⟩⟩
 ·
  unfold OwnI;have e1:(zs++[y]).length=zs.length+1:=by simp
  have e2:Za7 (zs++[y])=Za7 zs++[.int .i64 y]:=by simp[Za7]
  rw[e1,e2];exact h1
 ·
  exact(hb.alloc hbase _).grown h2 (by simp;omega) (fun k hk=>(hown.lt k hk).1)
 ·
  have:=h2.size;simp at this;omega
theorem Zfo {ops:Array Oper} {rest:List Oper} {o:Oper} {a:Act} {Q:Exit->Act->World->Prop} {wr:World} (hgd:o.guard=none) (s x:Operand)
 (ho:o.op=.call { callee:=.builtin .append,args:=#[s,x],argTypes:=#[22,22] })
 (base:Nat) (w0:World) (v:Value) (zs ys:List Int) (ao:Option Addr) (c:Nat) (hs:a.eval s=v) (hx:a.eval x=.slice ao ys.length c)
 (hown:OwnI wr base v zs) (hys:Zay wr ao ys) (hlen:zs.length+ys.length<1099511627776) (hbase:base<=wr.heap.size) (hb:Below base w0 wr)
 (hnil:ao=none->c=0)
 (h:∀ v' w',OwnI w' base v' (zs++ys)->Below base w0 w'->base<=w'.heap.size->Zft v v' wr w'->wpList Tryz.prog ops Q rest (a.put o.dst v') w') :
 wpList Tryz.prog ops Q (o::rest) a wr:=by
 obtain⟨i,hi,hz,hsz,hby⟩:=info_parts Zii;cases ao with
 | none =>
   have h0:ys=[]:=by
    apply List.eq_nil_of_length_eq_zero;rcases Nat.eq_zero_or_pos ys.length with h0|h0
    ·
     exact h0
    ·
     obtain⟨b,off,hh,_⟩:=hys.cells 0 h0;cases hh
   subst h0;obtain rfl:=hnil rfl;refine wpList_append_own_none (w:=wr) hgd s x 22 ho base 3 i 1 Tryz.underlying22 hi v zs.length (Za7 zs) hs hown hx ?_;exact h v wr (by simpa using hown) hb hbase ⟨Zpo _ _,.inl rfl⟩
 | some ad =>
   refine wpList_append_own_at (w:=wr) hgd s x 22 ho base 3 i (.int .i64 0) 1 8 Tryz.underlying22 hi hz hsz hby rfl (by decide)
    v zs.length (Za7 zs) hs hown ad ys.length c (Za7 ys) hx (by simp[Za7]) ?_ (ints_oneCell .i64 ys) (by unfold maxLen;omega) (by omega) hbase ?_
   ·
    intro j u hj;have hlt:j<ys.length:=by
     rcases Nat.lt_or_ge j ys.length with h'|h'
     ·
      exact h'
     ·
      simp[Za7,List.getElem?_eq_none h'] at hj
    obtain⟨b,off,hab,hc⟩:=hys.cells j hlt;cases hab;simp[Za7,getElem?_at0 hlt] at hj;subst hj;have hadd:(⟨b,off,none⟩:Addr).add j=⟨b,off+j,none⟩:=by unfold Addr.add;split<;>simp_all
    rw[hadd];exact hc
   ·
    intro v' w' h1 h2 _ hloc;refine h v' w' ?_ ?_ ?_ ⟨Zco h2,hloc.imp id fun e=>⟨_,e,Nat.le_refl _⟩⟩
    ·
     unfold OwnI;have e1:(zs++ys).length=zs.length+ys.length:=by simp
     have e2:Za7 (zs++ys)=Za7 zs++Za7 ys:=by simp[Za7]
     rw[e1,e2];exact h1
    ·
     exact hb.grown h2 hbase (fun k hk=>(hown.lt k hk).1)
    ·
     have:=h2.size;omega
theorem OwnI.cell {w:World} {base g cap n:Nat} {zs:List Int} (h:OwnI w base (.slice (some ⟨g,0,none⟩) n cap) zs) (k:Nat) (hk:k<zs.length) :
 w.cell? ⟨g,k,none⟩=some (.int .i64 (at0 zs k)):=by
 have hn:n=zs.length:=by
  rcases h.2 with ⟨hv,_⟩|⟨_,_,_,hv,_⟩
  ·
   cases hv
  ·
   cases hv;rfl
 subst hn;have:=World.ownsRow.cellAt h k (by omega);rw[this,Za7,List.getElem?_map,getElem?_at0 hk];rfl
theorem OwnI.frozen {w:World} {base g cap n:Nat} {zs:List Int} (h:OwnI w base (.slice (some ⟨g,0,none⟩) n cap) zs) (k:Nat) :
 w.frozen? ⟨g,k,none⟩=false:=by
 rcases h.2 with ⟨hv,_⟩|⟨_,_,_,hv,_⟩
 ·
  cases hv
 ·
  cases hv;exact World.ownsRow.frozenAt h k
theorem OwnI.stored {w:World} {base g cap n:Nat} {zs:List Int} (h:OwnI w base (.slice (some ⟨g,0,none⟩) n cap) zs) (k:Nat) (y:Int) :
 OwnI (w.setCell ⟨g,k,none⟩ (.int .i64 y)) base (.slice (some ⟨g,0,none⟩) n cap) (zs.set k y):=by
 rcases h.2 with ⟨hv,_⟩|⟨_,_,_,hv,_⟩
 ·
  cases hv
 ·
  cases hv;have:=(World.ownsRow.stored h k (.int .i64 y)).1;unfold OwnI;rw[List.length_set];have e:Za7 (zs.set k y)=(Za7 zs).set k (.int .i64 y):=by simp[Za7,List.map_set]
  rw[e];exact this
theorem OwnI.setCell_other {w:World} {base:Nat} {v:Value} {zs:List Int} (h:OwnI w base v zs) {a:Addr} (ha:v.ownBlock≠some a.block) (u:Value):OwnI (w.setCell a u) base v zs:=ownsRow_setCell_other h ha u
theorem Za9 {w:World} {g o:Nat} {v u:Value} {b q:Nat} (h:w.cell? ⟨b,q,none⟩=some u) (hne:g≠b\/o≠q):(w.setCell ⟨g,o,none⟩ v).cell? ⟨b,q,none⟩=some u:=by
 rw[World.cell?_setCell_other w ⟨g,o,none⟩ ⟨b,q,none⟩ v (by intro e;cases e;simp at hne)];exact h
def SliceIs (w:World) (v:Value) (zs:List Int):Prop:=∃ a c,v=.slice a zs.length c/\Zay w a zs/\(a=none->c=0)
theorem SliceIs.below {w w':World} {v:Value} {zs:List Int} (h:SliceIs w v zs) (hb:Below w.heap.size w w'):SliceIs w' v zs:=by
 obtain⟨a,c,rfl,h1,h2⟩:=h;exact⟨a,c,rfl,h1.below hb,h2⟩
theorem OwnI.sliceIs {w:World} {base:Nat} {v:Value} {zs:List Int} (h:OwnI w base v zs) (hl:zs.length<=9223372036854775807):SliceIs w v zs:=by
 obtain⟨a,c,rfl,h1⟩:=h.sliceOf hl;refine⟨a,c,rfl,h1,fun e=>?_⟩;subst e;rcases h.2 with ⟨hv,h0⟩|⟨g,cap,cur,hv,_⟩
 ·
  simp only[Value.slice.injEq] at hv;exact hv.2.2
 ·
  simp only[Value.slice.injEq] at hv;cases hv.1
theorem Zaf (w:World) (o:Obj):Below w.heap.size w (w.alloc o):=(Below.refl _ _).alloc (Nat.le_refl _) _
theorem Zah (w:World) (n:Nat):Below w.heap.size w (w.drewN n):=Zbi (Below.refl _ _) _
theorem Zd1 (w:World) (n:Nat) (o:Obj):Below w.heap.size w ((w.alloc o).drewN n):=Zbi (Zaf w o) _
theorem Zay.drewN {w:World} {a:Option Addr} {zs:List Int} (h:Zay w a zs) (n:Nat):Zay (w.drewN n) a zs:=⟨h.len,h.cells⟩
theorem Zk2 (w:World):SliceIs w (.slice none 0 0) []:=⟨none,0,rfl,⟨by simp,by simp⟩,fun _=>rfl⟩
theorem sliceIs_of_row {w:World} {a:Option Addr} {len cap:Nat} {zs:List Int}
 (h:(a=none/\len=0/\cap=0/\zs=[])\/∃ x,a=some x/\len<=cap/\cap<=maxLen/\zs.length=cap/\(∀ i,i<zs.length->w.cell? (x.add i)=some (.int .i64 (zs.getD i 0)))/\∀ n∈zs,(Lit.int .i64 n).wf=true) :
 SliceIs w (.slice a len cap) (zs.take len):=by
 rcases h with ⟨rfl,rfl,rfl,rfl⟩|⟨x,rfl,hl,hm,hz,hc,_⟩
 ·
  exact Zk2 w
 ·
  have hlen:(zs.take len).length=len:=by simp;omega
  refine⟨some x,cap,by rw[hlen],⟨by rw[hlen];unfold maxLen at hm;omega,fun k hk=>?_⟩,by simp⟩;rw[hlen] at hk;have h1:=hc k (by omega);obtain⟨b,off,spot⟩:=x;have hadd:∀ k,(⟨b,off,spot⟩:Addr).add k=if k=0 then ⟨b,off,spot⟩ else ⟨b,off+k,none⟩:=fun k=>rfl
  have hsp:spot=none:=by
   have h0:=hc 0 (by omega);rw[hadd,if_pos rfl] at h0;cases spot with
   | none=>rfl
   | some s =>
     unfold World.cell? at h0;split at h0<;>simp at h0
  subst hsp;refine⟨b,off,rfl,?_⟩;have e:at0 (zs.take len) k=zs.getD k 0:=by simp[at0,List.getD,hk]
  rw[e,<- h1,hadd]
  by_cases h0:k=0
  ·
   subst h0;rfl
  ·
   rw[if_neg h0]
end Go.Proofs.YtlgogjbkadckkaaGreat

namespace Go.Proofs.YtlgogjbkadckkaaGreat
def Ze5 (zs:List Int) (x:Int):Int:=match zs.idxOf? x with|some k=>k|none=>-1
theorem Zp2 {zs:List Int} {x:Int} {k:Nat} (h:k<zs.length) (hx:at0 zs k=x) (hn:∀ j,j<k->at0 zs j≠x):Ze5 zs x=k:=by
 have:zs.idxOf? x=some k:=by
  rw[List.idxOf?_eq_some_iff];refine⟨h,by rw[Zb0 h] at hx;exact hx,?_⟩;intro j hj;have:=hn j hj;rw[Zb0 (Nat.lt_trans hj h)] at this;exact this
 simp[Ze5,this]
theorem Zrp {zs:List Int} {x:Int} (hn:∀ j,j<zs.length->at0 zs j≠x):Ze5 zs x = -1:=by
 have:zs.idxOf? x=none:=by
  rw[List.idxOf?_eq_none_iff];intro hx;obtain⟨j,hj,rfl⟩:=List.mem_iff_getElem.1 hx;exact hn j hj (Zb0 hj)
 simp[Ze5,this]
def Zea (zs:List Int):Bool:=decide ((∀ k,k<zs.length->0<=at0 zs k/\at0 zs k<zs.length)/\∀ i,i<zs.length->∀ k,k<i->at0 zs k≠at0 zs i)
theorem Zml (zs:List Int):Zea zs=true↔(∀ k,k<zs.length->0<=at0 zs k/\at0 zs k<zs.length)/\∀ i,i<zs.length->∀ k,k<i->at0 zs k≠at0 zs i:=by simp[Zea]
theorem Zja {zs:List Int} (h:¬ ((∀ k,k<zs.length->0<=at0 zs k/\at0 zs k<zs.length)/\∀ i,i<zs.length->∀ k,k<i->at0 zs k≠at0 zs i)):Zea zs=false:=by
 rw[Bool.eq_false_iff];intro h';exact h ((Zml zs).1 h')
def Zql (zs:List Int) (i:Int):List Int :=
 if 0<=i/\i+1<zs.length then (zs.set i.toNat (at0 zs (i.toNat+1))).set (i.toNat+1) (at0 zs i.toNat) else zs
theorem Zqm (zs:List Int) (i:Int):(Zql zs i).length=zs.length:=by unfold Zql;split<;>simp
theorem Yaa {zs:List Int} {k:Nat} (h:k+1<zs.length):Zql zs (k:Int)=(zs.set k (at0 zs (k+1))).set (k+1) (at0 zs k):=by
 unfold Zql;rw[if_pos (by omega)];simp
def iota (n:Nat):List Int:=(List.range n).map Int.ofNat
theorem Zfg (n:Nat):(iota n).length=n:=by simp[iota]
theorem Zwt (n:Nat):iota (n+1)=iota n++[(n:Int)]:=by simp[iota,List.range_succ]
def Zpg (n:Int):List Int:=iota (min n.toNat 64)
theorem Zxr (zs:List Int) (x:Int) : -1<=Ze5 zs x:=by unfold Ze5;split<;>omega
theorem Zxs (zs:List Int) (x:Int):Ze5 zs x<max 1 zs.length:=by
 unfold Ze5;split
 ·
  rename_i k hk
  rw[List.idxOf?_eq_some_iff] at hk;obtain⟨h,_⟩:=hk;omega
 ·
  omega
def bub (zs:List Int) (i:Nat):Nat->List Int×List Int
 | 0=>(zs,[])
 | d+1=>((bub (Zql zs ((i+d:Nat):Int)) i d).1,((i+d:Nat):Int)::(bub (Zql zs ((i+d:Nat):Int)) i d).2)
def Zvu (zs:List Int) (x:Int) (i:Nat):List Int×List Int:=bub zs i (Ze5 zs x-i).toNat
def Zh7:List Int->List Int->Nat->List Int
 | _,[],_=>[]
 | now,b::bs,i=>(Zvu now b i).2++Zh7 (Zvu now b i).1 bs (i+1)
theorem Zy5 {zs:List Int} {k:Nat} (h:k<zs.length):zs.drop k=at0 zs k::zs.drop (k+1):=by
 rw[List.drop_eq_getElem_cons h,Zb0 h]
theorem Zru (now bs:List Int) (k:Nat) (h:k<bs.length):Zh7 now (bs.drop k) k=(Zvu now (at0 bs k) k).2++Zh7 (Zvu now (at0 bs k) k).1 (bs.drop (k+1)) (k+1):=by
 rw[Zy5 h];rfl
def Zeb (a b:List Int):List Int:=if Zea a=true/\Zea b=true/\a.length=b.length then Zh7 a b 0 else []
def Zdf (a b:List Int):Int:=if Zea a=true/\Zea b=true then (if a.length=b.length then 0 else 3) else 1
open Go.RowKit
inductive Role where
 | man|store|levels|vars|level|pool|slots|taken|free|tabs|tab (v:Nat)|tmap (v:Nat)|counts|memo|entries|handles|waits
 deriving DecidableEq
abbrev Own:=Nat->Option Role
def Zai (o:Own) (w:World):Prop:=∀ k r,o k=some r->k<w.heap.size
structure Chg (R:Role->Prop) (o o':Own) (w w':World):Prop where
 os:w'.os=w.os
 tape:w'.tape=w.tape
 output:w'.output=w.output
 size:w.heap.size<=w'.heap.size
 block:∀ k,k<w.heap.size->(∀ r,o k=some r->¬ R r)->w'.heap[k]?=w.heap[k]?
 ext:∀ k r,o k=some r->o' k=some r
 new:∀ k,o' k≠o k->w.heap.size<=k/\∃ r,o' k=some r/\R r
section
variable {R R':Role->Prop} {o o' o'':Own} {w w' w'':World} {r:Role}
theorem Chg.refl (R:Role->Prop) (o:Own) (w:World):Chg R o o w w:=⟨rfl,rfl,rfl,Nat.le_refl _,fun _ _ _=>rfl,fun _ _ h=>h,fun _ h=>(h rfl).elim⟩
theorem Chg.trans (h:Chg R o o' w w') (h':Chg R o' o'' w' w''):Chg R o o'' w w'':=by
 refine⟨h'.os.trans h.os,h'.tape.trans h.tape,h'.output.trans h.output,Nat.le_trans h.size h'.size,fun k hk hr=>?_,fun k r hr=>h'.ext k r (h.ext k r hr),fun k hk=>?_⟩
 ·
  have hlt:k<w'.heap.size:=Nat.lt_of_lt_of_le hk h.size;refine(h'.block k hlt fun q hq=>?_).trans (h.block k hk hr)
  by_cases e:o' k=o k
  ·
   rw[e] at hq;exact hr q hq
  ·
   have:=(h.new k e).1;omega
 ·
  by_cases e:o'' k=o' k
  ·
   rw[e] at hk ⊢;exact h.new k hk
  ·
   have:=h'.new k e;exact⟨Nat.le_trans h.size this.1,this.2⟩
theorem Chg.mono (h:Chg R o o' w w') (hR:∀ r,R r->R' r):Chg R' o o' w w' :=
 ⟨h.os,h.tape,h.output,h.size,fun k hk hr=>h.block k hk fun r hr' hh=>hr r hr' (hR r hh),h.ext,fun k hk=>⟨(h.new k hk).1,(h.new k hk).2.imp fun r hh=>⟨hh.1,hR r hh.2⟩⟩⟩
theorem Chg.drewN (h:Chg R o o' w w') (n:Nat):Chg R o o' w (w'.drewN n):=⟨h.os,h.tape,h.output,h.size,h.block,h.ext,h.new⟩
theorem Chg.alloc (h:Chg R o o' w w') (ob:Obj):Chg R o o' w (w'.alloc ob) :=
 ⟨h.os,h.tape,h.output,by simp;have:=h.size;omega,fun k hk hr=>(Go.heap_alloc_old w' ob (Nat.lt_of_lt_of_le hk h.size)).trans (h.block k hk hr),h.ext,h.new⟩
theorem Chg.setCell (h:Chg R o o' w w') {p:Addr} {r:Role} (hp:o' p.block=some r) (hr:R r) (u:Value):Chg R o o' w (w'.setCell p u):=by
 refine⟨h.os,h.tape,h.output,by simp[World.setCell];exact h.size,fun k hk hk'=>?_,h.ext,h.new⟩;have hne:k≠p.block:=by
  rintro rfl
  by_cases e:o' p.block=o p.block
  ·
   rw[e] at hp;exact hk' r hp hr
  ·
   have:=(h.new _ e).1;omega
 rw[Below.heap_setCell _ _ _ _ hne];exact h.block k hk hk'
theorem Chg.setCell_new (h:Chg R o o' w w') {p:Addr} (hp:w.heap.size<=p.block) (u:Value):Chg R o o' w (w'.setCell p u):=by
 refine⟨h.os,h.tape,h.output,by simp[World.setCell];exact h.size,fun k hk hk'=>?_,h.ext,h.new⟩;rw[Below.heap_setCell _ _ _ _ (by omega)];exact h.block k hk hk'
theorem Chg.of_below (hb:Below w.heap.size w w') (R:Role->Prop) (o:Own):Chg R o o w w' :=
 ⟨hb.os,hb.tape,hb.output,hb.size,fun k hk _=>hb.block k hk,fun _ _ h=>h,fun _ h=>(h rfl).elim⟩
def Zcs (o:Own) (b:Nat) (r:Role):Own:=fun k=>if k=b then some r else o k
theorem Za5 (o:Own) (b:Nat) (r:Role):Zcs o b r b=some r:=by simp[Zcs]
theorem Zcv {b k:Nat} {q:Role} (hlt:Zai o w) (hb:w.heap.size<=b) (h:o k=some q):Zcs o b r k=some q:=by
 have:=hlt k q h;simp only[Zcs,if_neg (show k≠b by omega)];exact h
theorem Chg.allocR (h:Chg R o o' w w') (hlt:Zai o' w') (ob:Obj) (hr:R r):Chg R o (Zcs o' w'.heap.size r) w (w'.alloc ob):=by
 have h2:=h.alloc ob;refine⟨h2.os,h2.tape,h2.output,h2.size,h2.block,fun k q hq=>Zcv hlt (Nat.le_refl _) (h.ext k q hq),fun k hk=>?_⟩
 by_cases e:k=w'.heap.size
 ·
  subst e;exact⟨h.size,r,Za5 _ _ _,hr⟩
 ·
  simp only[Zcs,if_neg e] at hk ⊢;exact h.new k hk
theorem Zai.allocR (h:Zai o w) (ob:Obj) (r:Role):Zai (Zcs o w.heap.size r) (w.alloc ob):=by
 intro k q hq;simp only[World.size_alloc]
 by_cases e:k=w.heap.size
 ·
  omega
 ·
  simp only[Zcs,if_neg e] at hq;have:=h k q hq;omega
theorem Zai.mono (h:Zai o w) (hs:w.heap.size<=w'.heap.size):Zai o w':=fun k r hr=>Nat.lt_of_lt_of_le (h k r hr) hs
theorem Chg.grown (h:Chg R o o' w w') {row:Option Nat} (hg:w'.grownBy w'' row) (hrow:∀ g,row=some g->∃ r,o' g=some r/\R r):Chg R o o' w w'':=by
 refine h.trans ⟨hg.os,hg.tape,hg.output,hg.size,fun k hk hr=>hg.block k hk fun e=>?_,fun _ _ h=>h,fun _ h=>(h rfl).elim⟩;obtain⟨r,h1,h2⟩:=hrow k e.symm;exact hr r h1 h2
theorem Chg.same (h:Chg R o o' w w') (hlt:Zai o w) {b:Nat} {r:Role} (hb:o b=some r) (hr:¬ R r):w'.heap[b]?=w.heap[b]? :=
 h.block b (hlt b r hb) fun q hq=>by rw[hb] at hq;cases hq;exact hr
theorem Chg.alien (h:Chg R o o' w w') {b:Nat} (hlt:b<w.heap.size) (hb:o b=none):w'.heap[b]?=w.heap[b]? :=
 h.block b hlt fun q hq=>by rw[hb] at hq;cases hq
theorem Chg.alien' (h:Chg R o o' w w') {b:Nat} (hlt:b<w.heap.size) (hb:o b=none):o' b=none:=by
 by_cases e:o' b=o b
 ·
  rw[e];exact hb
 ·
  have:=(h.new b e).1;omega
theorem Chg.cell (h:Chg R o o' w w') {p:Addr} {v:Value} (hc:w.cell? p=some v) (hb:o p.block=none):w'.cell? p=some v :=
 (World.cell?_of_block (w:=w) (h.alien (World.block_lt_of_cell? w p hc) hb)).trans hc
structure RowR (o:Own) (w:World) (r:Role) (e:TypeId) (size:Nat) (v:Value) (n:Nat) (xs:List Value):Prop where
 len:xs.length=n*size
 ex:(v=.slice none 0 0/\n=0)\/∃ g cap cur,v=.slice (some ⟨g,0,none⟩) n cap/\o g=some r/\w.heap[g]?=some (.cells cur e (0,0))/\n<=cap/\cap<=maxLen/\cap*size<=cur.size/\cur.toList.take (n*size)=xs
variable {e:TypeId} {size:Nat} {v:Value} {n:Nat} {xs:List Value}
theorem RowR.nil (o:Own) (w:World) (r:Role) (e:TypeId) (size:Nat):RowR o w r e size (.slice none 0 0) 0 []:=⟨by simp,.inl ⟨rfl,rfl⟩⟩
theorem RowR.keep (h:RowR o w r e size v n xs) (hk:∀ g,o g=some r->w'.heap[g]?=w.heap[g]?) (ho:∀ g,o g=some r->o' g=some r):RowR o' w' r e size v n xs:=by
 refine⟨h.len,h.ex.imp id ?_⟩;rintro⟨g,cap,cur,h1,h2,h3,rest⟩;exact⟨g,cap,cur,h1,ho g h2,(hk g h2).trans h3,rest⟩
theorem RowR.chg (h:RowR o w r e size v n xs) (hc:Chg R o o' w w') (hlt:Zai o w) (hr:¬ R r):RowR o' w' r e size v n xs :=
 h.keep (fun g hg=>hc.same hlt hg hr) (fun g hg=>hc.ext g r hg)
theorem RowR.shape (h:RowR o w r e size v n xs) (hn:0<n):∃ g cap,v=.slice (some ⟨g,0,none⟩) n cap/\o g=some r/\n<=cap/\cap<=maxLen:=by
 rcases h.ex with ⟨_,h0⟩|⟨g,cap,cur,h1,h2,_,h3,h4,_⟩
 ·
  omega
 ·
  exact⟨g,cap,h1,h2,h3,h4⟩
theorem RowR.slice (h:RowR o w r e size v n xs):∃ a cap,v=.slice a n cap/\n<=cap/\cap<=maxLen/\(a=none->cap=0)/\(∀ x,a=some x->∃ g,x=⟨g,0,none⟩/\o g=some r):=by
 rcases h.ex with ⟨h1,h0⟩|⟨g,cap,cur,h1,h2,_,h3,h4,_⟩
 ·
  exact⟨none,0,by rw[h1,h0],by omega,by omega,fun _=>rfl,by simp⟩
 ·
  exact⟨_,cap,h1,h3,h4,by simp,fun x hx=>⟨g,by cases hx;rfl,h2⟩⟩
theorem RowR.cell {g cap m:Nat} (h:RowR o w r e size (.slice (some ⟨g,0,none⟩) m cap) n xs) (k:Nat) (hk:k<xs.length):w.cell? ⟨g,k,none⟩=xs[k]?:=by
 rcases h.ex with ⟨h1,_⟩|⟨g',cap',cur,h1,_,h3,_,_,h4,h5⟩
 ·
  cases h1
 ·
  cases h1;rw[cell_of_row w g k cur e (0,0) h3];have:xs[k]?=(cur.toList.take (n*size))[k]?:=by rw[h5]
  rw[this,List.getElem?_take,if_pos (by rw[<- h.len];exact hk)];simp
theorem RowR.frozen {g cap m:Nat} (h:RowR o w r e size (.slice (some ⟨g,0,none⟩) m cap) n xs) (k:Nat):w.frozen? ⟨g,k,none⟩=false:=by
 rcases h.ex with ⟨h1,_⟩|⟨g',cap',cur,h1,_,h3,_⟩
 ·
  cases h1
 ·
  cases h1;simp[World.frozen?,h3]
theorem RowR.owner {g cap m:Nat} (h:RowR o w r e size (.slice (some ⟨g,0,none⟩) m cap) n xs):o g=some r:=by
 rcases h.ex with ⟨h1,_⟩|⟨g',cap',cur,h1,h2,_⟩
 ·
  cases h1
 ·
  cases h1;exact h2
theorem RowR.stored {g cap m:Nat} (h:RowR o w r e size (.slice (some ⟨g,0,none⟩) m cap) n xs) (k:Nat) (u:Value) :
 RowR o (w.setCell ⟨g,k,none⟩ u) r e size (.slice (some ⟨g,0,none⟩) m cap) n (xs.set k u):=by
 refine⟨by rw[List.length_set];exact h.len,?_⟩;rcases h.ex with ⟨h1,_⟩|⟨g',cap',cur,h1,h2,h3,h4,h5,h6,h7⟩
 ·
  cases h1
 ·
  cases h1;refine .inr ⟨g,cap,cur.setIfInBounds k u,rfl,h2,?_,h4,h5,by simpa using h6,?_⟩
  ·
   simp only[World.setCell,Array.getElem?_modify,if_true,h3];rfl
  ·
   rw[Array.toList_setIfInBounds,List.take_set,h7]
theorem RowR.setCell_other (h:RowR o w r e size v n xs) {p:Addr} (hp:o p.block≠some r) (u:Value):RowR o (w.setCell p u) r e size v n xs :=
 h.keep (fun g hg=>Below.heap_setCell _ _ _ _ (by rintro rfl;exact hp hg)) (fun _ h=>h)
theorem RowR.shrink {g cap m m' cap':Nat} (h:RowR o w r e size (.slice (some ⟨g,0,none⟩) m cap) n xs) (hm:m'<=n) (hc:cap'<=cap) (hmc:m'<=cap') :
 RowR o w r e size (.slice (some ⟨g,0,none⟩) m' cap') m' (xs.take (m'*size)):=by
 have hmn:m'*size<=n*size:=Nat.mul_le_mul_right _ hm;refine⟨by rw[List.length_take,h.len];omega,?_⟩;rcases h.ex with ⟨h1,_⟩|⟨g',cap0,cur,h1,h2,h3,h4,h5,h6,h7⟩
 ·
  cases h1
 ·
  cases h1;refine .inr ⟨g,cap',cur,rfl,h2,h3,hmc,by omega,Nat.le_trans (Nat.mul_le_mul_right _ hc) h6,?_⟩;rw[<- h7,List.take_take];congr 1;omega
variable {P:Program}
theorem RowR.append (h:RowR o w r e size v n xs) (hlt:Zai o w) (t ty:TypeId) (i:TypeInfo) (z:Value) (bytes:Nat) (ht:P.underlying t=some (.slice e)) (hi:P.info? e=some i) (hz:i.zero=some z)
 (hsize:i.size=size) (hby:i.bytes=bytes) (hzs:z.cells.size=size) (hsz:0<size)
 (a:Addr) (m c:Nat) (news:List Value) (hl:news.length=m*size) (hnews:∀ j u,news[j]?=some u->w.cell? (a.add j)=some u) (h1:∀ u∈news,u.oneCell'=true)
 (h63:n+m<=maxLen) (hbytes:(n+m)*bytes<=140737488355328) :
 ∃ v' w' o',(Builtin.append_ #[t,t] ty #[v,.slice (some a) m c]).run P w=.ok v' w'/\RowR o' w' r e size v' (n+m) (xs++news)/\Chg (· = r) o o' w w'/\Zai o' w':=by
 subst hsize;subst hby;have hsmall:n+m<=9223372036854775807:=by simp only[maxLen] at h63;omega
 have hlen:(xs++news).length=(n+m)*i.size:=by rw[List.length_append,h.len,hl,Nat.add_mul]
 have grown:∀ (old:Nat),
  RowR (Zcs o w.heap.size r) (w.drew.alloc (.cells (xs.toArray++news.toArray++Builtin.zeroCells z.cells (grownCap w (n+m) old e-(n+m))) e)) r e i.size
   (.slice (some ⟨w.heap.size,0,none⟩) (n+m) (grownCap w (n+m) old e)) (n+m) (xs++news) /\
  Chg (· = r) o (Zcs o w.heap.size r) w (w.drew.alloc (.cells (xs.toArray++news.toArray++Builtin.zeroCells z.cells (grownCap w (n+m) old e-(n+m))) e)) /\
  Zai (Zcs o w.heap.size r) (w.drew.alloc (.cells (xs.toArray++news.toArray++Builtin.zeroCells z.cells (grownCap w (n+m) old e-(n+m))) e)):=by
  intro old;have hge:=grownCap_ge w (n+m) old e;have hcm:grownCap w (n+m) old e<=maxLen:=grownCap_le_maxLen w (n+m) old e h63;refine⟨⟨hlen,.inr ⟨w.heap.size,_,_,rfl,Za5 _ _ _,heap_alloc_new w.drew _,hge,hcm,?_,?_⟩⟩,(((Chg.refl (· = r) o w).drewN 1).allocR (w':=w.drewN 1) hlt _ rfl),Zai.allocR (w:=w.drewN 1) hlt _ r⟩
  ·
   simp only[Array.size_append,List.size_toArray,size_zeroCells,hzs,h.len,hl,<- Nat.add_mul];exact Nat.mul_le_mul_right _ (by omega)
  ·
   simp only[Array.toList_append,List.append_assoc];rw[<- List.append_assoc,<- hlen];exact List.take_left
 rcases h.ex with ⟨rfl,rfl⟩|⟨g,cap,cur,rfl,hog,hg,hnc,hcm,hcs,htake⟩
 ·
  have hx:xs=[]:=List.eq_nil_of_length_eq_zero (by simpa using h.len);subst hx
  by_cases hm:m=0
  ·
   subst hm;have hn:news=[]:=List.eq_nil_of_length_eq_zero (by simpa using hl);subst hn;refine⟨.slice none 0 0,w,o,?_,RowR.nil o w r e i.size,Chg.refl _ _ _,hlt⟩;simp[Builtin.append_,run_underlying ht,sizeOf,typeInfo,hi,Builtin.lenOf,Builtin.firstCells,loadCells,loadCellsFrom]
  ·
   have hr:=run_append_nil (P:=P) w t ty e i z ht hi hz a m c news hl hnews (by omega) (by omega) (by have hb:=hbytes;simp only[Nat.zero_add] at hb;omega);have hgr:=grown 0;simp only[Nat.zero_add,List.nil_append,Array.empty_append] at hgr ⊢;exact⟨_,_,_,hr,hgr⟩
 ·
  by_cases hroom:n+m<=cap
  ·
   have hfit:n*i.size+news.length<=cur.size:=by rw[hl,<- Nat.add_mul];exact Nat.le_trans (Nat.mul_le_mul_right _ hroom) hcs
   have hr:=run_append_room (P:=P) w t ty e i ht hi g n cap cur hg a m c news hl hnews h1 hroom hfit;refine⟨_,_,o,hr,⟨hlen,.inr ⟨g,cap,_,rfl,hog,setRow_heap w g cur _ e _ hg,hroom,hcm,?_,?_⟩⟩,⟨rfl,rfl,rfl,by simp,fun k _ hk=>setRow_other w g k _ (by rintro rfl;exact hk r hog rfl),fun _ _ h=>h,fun _ h=>(h rfl).elim⟩,fun k q hq=>by have:=hlt k q hq;simpa using this⟩
   ·
    simp only[List.size_toArray,List.length_append,List.length_take,List.length_drop,Array.length_toList];omega
   ·
    rw[htake,<- hlen];exact List.take_left
  ·
   have holds:∀ j u,xs[j]?=some u->w.cell? ((⟨g,0,none⟩:Addr).add j)=some u:=by
    intro j u hu;have hadd:(⟨g,0,none⟩:Addr).add j=⟨g,j,none⟩:=by unfold Addr.add;split<;>simp_all
    have hj:j<xs.length:=by
     rcases Nat.lt_or_ge j xs.length with h'|h'
     ·
      exact h'
     ·
      rw[List.getElem?_eq_none h'] at hu;cases hu
    rw[hadd,h.cell j hj];exact hu
   have hr:=run_append_grow (P:=P) w t ty e i z ht hi hz ⟨g,0,none⟩ n cap xs h.len holds a m c news hl hnews (by omega) (by omega) (growslice_fits (by omega) hbytes);have hgr:=grown cap;exact⟨_,_,_,hr,hgr⟩
end
theorem Za6 {α:Type} (f:α->List Value) (s:Nat) (hf:∀ x,(f x).length=s):∀ (l:List α),(l.flatMap f).length=l.length*s
 | []=>by simp
 | x::l=>by rw[List.flatMap_cons,List.length_append,hf,Za6 f s hf l,List.length_cons,Nat.add_mul];omega
theorem Zfe {α:Type} (f:α->List Value) (s:Nat) (hf:∀ x,(f x).length=s):∀ (l:List α) (k j:Nat) (x:α),l[k]?=some x->j<s->(l.flatMap f)[k*s+j]?=(f x)[j]?
 | [],k,j,x,h,_=>by simp at h
 | y::l,0,j,x,h,hj=>by
   simp at h;subst h
   rw[List.flatMap_cons,List.getElem?_append_left (by rw[hf];omega)];congr 1;omega
 | y::l,k+1,j,x,h,hj=>by
   simp at h;rw[List.flatMap_cons,List.getElem?_append_right (by rw[hf,Nat.add_mul];omega),hf,<- Zfe f s hf l k j x h hj];congr 1;rw[Nat.add_mul];omega
open Go.RowKit
theorem Zqx {ops:Array Oper} {rest:List Oper} {o:Oper} {a:Act} {Q:Exit->Act->World->Prop} {wr:World} (hgd:o.guard=none) (l c:Operand)
 (ho:o.op=.makeSlice 22 l c) (base:Nat) (w0:World) (L:Int) (n:Nat) (hl:a.eval l=.int .i64 L) (hc:a.eval c=.int .i64 L) (hL:L=n) (hn:n<1099511627776)
 (hbase:base<=wr.heap.size) (hb:Below base w0 wr)
 (h:∀ g w',OwnI w' base (.slice (some ⟨g,0,none⟩) n n) (List.replicate n 0)->Below base w0 w'->base<=w'.heap.size->Zes none wr w'->base<=g ->
  wpList Tryz.prog ops Q rest (a.put o.dst (.slice (some ⟨g,0,none⟩) n n)) w') :
 wpList Tryz.prog ops Q (o::rest) a wr:=by
 obtain⟨i,hi,hz,hsz,hby⟩:=info_parts Zii;refine wpList_make_full wr hgd l c 22 ho base 3 i (.int .i64 0) 1 Tryz.underlying22 hi hz hsz .i64 .i64 L L n hl hc hL hL (by rw[hby];omega) (by unfold maxLen;omega) hbase ?_;intro w' h1 h2;refine h wr.heap.size w' ?_ (hb.grown h2 hbase (by simp)) (by have:=h2.size;omega) (Zco h2) hbase;unfold OwnI;have e1:Za7 (List.replicate n 0)=(madeCells (Value.int .i64 0).cells (n*1)).toList:=by
  simp[Za7,madeCells,Value.cells];apply List.ext_getElem
  ·
   simp
  ·
   intro j h3 h4;simp[Nat.mod_one]
 rw[List.length_replicate,e1];exact h1
theorem Zh6 (k n:Nat) (h:k<n):(iota k++List.replicate (n-k) 0).set k (k:Int)=iota (k+1)++List.replicate (n-(k+1)) 0:=by
 have e:n-k=(n-(k+1))+1:=by omega
 rw[e,List.replicate_succ,List.set_append_right _ _ (by simp[Zfg]),Zfg,Nat.sub_self,List.set_cons_zero,Zwt,List.append_assoc];rfl
theorem Znv (n:Int) (w:World) :
 Calls Tryz.prog 77 #[.int .i64 n] w fun e w'=>∃ v,e=.returned v/\OwnI w' w.heap.size v (Zpg n)/\Below w.heap.size w w':=by
 obtain⟨L,hL⟩:∃ L:Nat,L=min n.toNat 64:=⟨_,rfl⟩;have hL64:L<=64:=by omega
 have HF:Hid (Zpg n=iota L):=by unfold Zpg;rw[hL];rfl
 have HL:=Hd hL;clear hL
 go_enter Tryz.func77,Tryz.ntmps77
 go_wp2_with (at_make;refine Zqx rfl _ _ rfl w.heap.size w _ L rfl rfl (by have:=HL.out;omega) (by omega) (Nat.le_refl _) (Below.refl _ _) ?_;intro g w1 hown1 hb1 hs1 hk1 hg1)
 all_goals
  go_loopw [11] (fun i wr=>∃ k:Nat,k<=L/\i=.int .i64 k/\OwnI wr w.heap.size (.slice (some ⟨g,0,none⟩) L L) (iota k++List.replicate (L-k) 0)/\Below w.heap.size w wr) (fun i _=>L-(intOf i).toNat)
  case atStart=>exact⟨0,by omega,rfl,by simpa [iota] using hown1,hb1⟩
  case round =>
   obtain⟨k,hk,rfl,hown,hbel⟩:=hrel
   by_cases hlt:k<L
   ·
    have q0:=hown.cell k (by simp[Zfg];omega);have p0:=hown.frozen k
    go_wp2
    go_roundw
    case rel=>exact⟨k+1,by omega,by go_num,by rw[<- Zh6 k L hlt];exact hown.stored k _,hbel.setCell hg1 _⟩
    case measure=>simp[intOf];omega
   ·
    obtain rfl:k=L:=by omega
    go_wp2
    go_ret;exact⟨_,rfl,by rw[HF.out];simpa using hown,hbel⟩
end Go.Proofs.YtlgogjbkadckkaaGreat

namespace Go.Proofs.YtlgogjbkadckkaaGreat
abbrev BF:=(Nat->Bool)->Bool
structure BN where
 v:Nat
 lo:Nat
 hi:Nat
def ef (V:Nat->BF) (e:Nat):BF:=fun ρ=>(e%2 == 1) != V (e/2) ρ
def iteF (v:Nat) (h l:BF):BF:=fun ρ=>if ρ v then h ρ else l ρ
def okE (nodes:Nat->Option BN) (e:Nat):Prop:=e/2=0\/∃ b,nodes (e/2)=some b
def lvE (n:Nat) (lev:Nat->Nat) (nodes:Nat->Option BN) (e:Nat):Nat :=
 match nodes (e/2) with
 | some b=>lev b.v
 | none=>n
structure Dag (n:Nat) (lev:Nat->Nat) (nodes:Nat->Option BN) (V:Nat->BF):Prop where
 one:∀ ρ,V 0 ρ=true
 none0:nodes 0=none
 var:∀ id b,nodes id=some b->b.v<n
 inj:∀ u v,u<n->v<n->lev u=lev v->u=v
 lt:∀ v,v<n->lev v<n
 okLo:∀ id b,nodes id=some b->okE nodes b.lo
 okHi:∀ id b,nodes id=some b->okE nodes b.hi
 lvLo:∀ id b,nodes id=some b->lev b.v<lvE n lev nodes b.lo
 lvHi:∀ id b,nodes id=some b->lev b.v<lvE n lev nodes b.hi
 reg:∀ id b,nodes id=some b->b.hi%2=0
 ne:∀ id b,nodes id=some b->b.lo≠b.hi
 uniq:∀ id id' b,nodes id=some b->nodes id'=some b->id=id'
 eqn:∀ id b,nodes id=some b->V id=iteF b.v (ef V b.hi) (ef V b.lo)
section
variable {n:Nat} {lev:Nat->Nat} {nodes:Nat->Option BN} {V:Nat->BF}
theorem Yc0 (V:Nat->BF) (e:Nat) (ρ:Nat->Bool):ef V (e ^^^ 1) ρ = !ef V e ρ:=by
 have h1:(e ^^^ 1)/2=e/2:=by
  have:=Nat.shiftRight_xor_distrib (a:=e) (b:=1) (i:=1);simpa [Nat.shiftRight_eq_div_pow] using this
 have h2:(e ^^^ 1)%2=1-e%2:=by
  have:=Nat.xor_mod_two_pow (a:=e) (b:=1) (n:=1);simp at this;rw[this];rcases Nat.mod_two_eq_zero_or_one e with h|h<;>rw[h]<;>rfl
 unfold ef;rw[h1,h2];rcases Nat.mod_two_eq_zero_or_one e with h|h<;>rw[h]<;>simp
theorem Dag.lvE_le (h:Dag n lev nodes V) (e:Nat):lvE n lev nodes e<=n:=by
 unfold lvE;split
 ·
  rename_i b hb;exact Nat.le_of_lt (h.lt _ (h.var _ _ hb))
 ·
  exact Nat.le_refl _
theorem Dag.indep (h:Dag n lev nodes V):∀ (k e:Nat),n-lvE n lev nodes e<=k->okE nodes e->∀ ρ ρ':Nat->Bool,(∀ v,v<n->lvE n lev nodes e<=lev v->ρ v=ρ' v)->ef V e ρ=ef V e ρ':=by
 intro k
 induction k with
 | zero =>
   intro e hk ho ρ ρ' _;have h0:e/2=0:=by
    rcases ho with ho|⟨b,hb⟩
    ·
     exact ho
    ·
     exfalso;have h1:=h.lt _ (h.var _ _ hb);simp only[lvE,hb] at hk;omega
   simp only[ef,h0,h.one]
 | succ k ih =>
   intro e hk ho ρ ρ' hag;rcases ho with ho|⟨b,hb⟩
   ·
    simp only[ef,ho,h.one]
   ·
    have hl:lvE n lev nodes e=lev b.v:=by simp only[lvE,hb]
    rw[hl] at hk hag;have hv:=h.var _ _ hb;have e1:ρ b.v=ρ' b.v:=hag _ hv (Nat.le_refl _);have e2:ef V b.hi ρ=ef V b.hi ρ':=ih b.hi (by have:=h.lvHi _ _ hb;omega) (h.okHi _ _ hb) ρ ρ' (fun v hv' hle=>hag v hv' (by have:=h.lvHi _ _ hb;omega));have e3:ef V b.lo ρ=ef V b.lo ρ':=ih b.lo (by have:=h.lvLo _ _ hb;omega) (h.okLo _ _ hb) ρ ρ' (fun v hv' hle=>hag v hv' (by have:=h.lvLo _ _ hb;omega));have:V (e/2) ρ=V (e/2) ρ':=by rw[h.eqn _ _ hb];simp only[iteF,e1,e2,e3]
    simp only[ef,this]
theorem Dag.top (h:Dag n lev nodes V):∀ (k id:Nat),n-lvE n lev nodes (2*id)<=k->(id=0\/∃ b,nodes id=some b)->V id (fun _=>true)=true:=by
 intro k
 induction k with
 | zero =>
   intro id hk ho;rcases ho with rfl|⟨b,hb⟩
   ·
    exact h.one _
   ·
    exfalso;have h1:=h.lt _ (h.var _ _ hb);have:2*id/2=id:=by omega
    simp only[lvE,this,hb] at hk;omega
 | succ k ih =>
   intro id hk ho;rcases ho with rfl|⟨b,hb⟩
   ·
    exact h.one _
   ·
    have h2:2*id/2=id:=by omega
    have hr:=h.reg _ _ hb;have hd:2*(b.hi/2)=b.hi:=by omega
    simp only[lvE,h2,hb] at hk;have hl:=h.lvHi _ _ hb;have:=ih (b.hi/2) (by rw[hd];omega) (h.okHi _ _ hb);rw[h.eqn _ _ hb];simp only[iteF,if_true,ef,hr,this];rfl
def upd (ρ:Nat->Bool) (v:Nat) (x:Bool):Nat->Bool:=fun u=>if u=v then x else ρ u
theorem Zfn (ρ:Nat->Bool) (v:Nat) (x:Bool):upd ρ v x v=x:=by simp[upd]
theorem Zys (ρ:Nat->Bool) {v u:Nat} (x:Bool) (h:u≠v):upd ρ v x u=ρ u:=by simp[upd,h]
theorem Dag.indep_var (h:Dag n lev nodes V) {e v:Nat} (ho:okE nodes e) (hl:lev v<lvE n lev nodes e) (ρ:Nat->Bool) (x:Bool):ef V e (upd ρ v x)=ef V e ρ :=
 h.indep _ e (Nat.le_refl _) ho _ _ fun u _ hle=>Zys ρ x (by rintro rfl;omega)
theorem Dag.cofs (h:Dag n lev nodes V) {id:Nat} {b:BN} (hb:nodes id=some b) (ρ:Nat->Bool):V id (upd ρ b.v true)=ef V b.hi ρ/\V id (upd ρ b.v false)=ef V b.lo ρ:=by
 rw[h.eqn _ _ hb];simp only[iteF,Zfn,if_true,h.indep_var (h.okHi _ _ hb) (h.lvHi _ _ hb),h.indep_var (h.okLo _ _ hb) (h.lvLo _ _ hb)];simp
theorem Zgb {id:Nat} {b:BN} (h:nodes id=some b):okE nodes (2*id):=.inr ⟨b,by rw[show 2*id/2=id from by omega];exact h⟩
theorem Dag.canonK (h:Dag n lev nodes V):∀ (k e e':Nat),n-lvE n lev nodes e<=k->n-lvE n lev nodes e'<=k->okE nodes e->okE nodes e'->ef V e=ef V e'->e=e':=by
 intro k
 induction k with
 | zero =>
   intro e e' hk hk' ho ho' heq;have z:∀ e,n-lvE n lev nodes e<=0->okE nodes e->e/2=0:=by
    intro e hk ho;rcases ho with ho|⟨b,hb⟩
    ·
     exact ho
    ·
     exfalso;have h1:=h.lt _ (h.var _ _ hb);simp only[lvE,hb] at hk;omega
   have h1:=z e hk ho;have h2:=z e' hk' ho';have:=congrFun heq (fun _=>true);simp only[ef,h1,h2,h.one] at this;have hp:e%2=e'%2:=by
    rcases Nat.mod_two_eq_zero_or_one e with a|a<;>rcases Nat.mod_two_eq_zero_or_one e' with b|b<;>rw[a,b] at this<;>first|omega|simp at this
   omega
 | succ k ih =>
   intro e e' hk hk' ho ho' heq;have t:∀ e,okE nodes e->V (e/2) (fun _=>true)=true:=fun e ho=>h.top _ _ (Nat.le_refl _) ho
   have hp:e%2=e'%2:=by
    have:=congrFun heq (fun _=>true);simp only[ef,t e ho,t e' ho'] at this;rcases Nat.mod_two_eq_zero_or_one e with a|a<;>rcases Nat.mod_two_eq_zero_or_one e' with b|b<;>rw[a,b] at this<;>first|omega|simp at this
   have hV:V (e/2)=V (e'/2):=by
    funext ρ;have:=congrFun heq ρ;simp only[ef,hp] at this;revert this;cases V (e/2) ρ<;>cases V (e'/2) ρ<;>cases (e'%2 == 1)<;>simp
   have nohang:∀ (id:Nat) (b:BN),nodes id=some b->n-lev b.v<=k+1->¬ (∀ ρ x,V id (upd ρ b.v x)=V id ρ):=by
    intro id b hb hkb hno;refine h.ne _ _ hb (ih b.lo b.hi (by have:=h.lvLo _ _ hb;omega) (by have:=h.lvHi _ _ hb;omega) (h.okLo _ _ hb) (h.okHi _ _ hb) ?_);funext ρ;have:=h.cofs hb ρ;rw[<- this.1,<- this.2,hno,hno]
   have key:e/2=e'/2:=by
    rcases ho with h0|⟨b,hb⟩
    ·
     rcases ho' with h0'|⟨b',hb'⟩
     ·
      omega
     ·
      exfalso;simp only[lvE,hb'] at hk';refine nohang _ _ hb' hk' fun ρ x=>?_
      rw[<- hV,h0,h.one,h.one]
    ·
     rcases ho' with h0'|⟨b',hb'⟩
     ·
      exfalso;simp only[lvE,hb] at hk;refine nohang _ _ hb hk fun ρ x=>?_
      rw[hV,h0',h.one,h.one]
     ·
      have hl:lvE n lev nodes (2*(e/2))=lev b.v:=by
       have:2*(e/2)/2=e/2:=by omega
       simp only[lvE,this,hb]
      have hl':lvE n lev nodes (2*(e'/2))=lev b'.v:=by
       have:2*(e'/2)/2=e'/2:=by omega
       simp only[lvE,this,hb']
      have V2:∀ id,ef V (2*id)=V id:=by
       intro id;funext ρ
       have h1:2*id/2=id:=by omega
       have h2:2*id%2=0:=by omega
       simp[ef,h1,h2]
      simp only[lvE,hb] at hk;simp only[lvE,hb'] at hk';rcases Nat.lt_trichotomy (lev b.v) (lev b'.v) with hlt|heqv|hgt
      ·
       exfalso;refine nohang _ _ hb hk fun ρ x=>?_
       have:=h.indep_var (e:=2*(e'/2)) (v:=b.v) (Zgb hb') (by rw[hl'];exact hlt) ρ x;rw[V2] at this;rw[hV];exact this
      ·
       have hvv:b.v=b'.v:=h.inj _ _ (h.var _ _ hb) (h.var _ _ hb') heqv;have hlo:b.lo=b'.lo:=by
        refine ih _ _ (by have:=h.lvLo _ _ hb;omega) (by have:=h.lvLo _ _ hb';omega) (h.okLo _ _ hb) (h.okLo _ _ hb') ?_;funext ρ;rw[<- (h.cofs hb ρ).2,<- (h.cofs hb' ρ).2,hV,hvv]
       have hhi:b.hi=b'.hi:=by
        refine ih _ _ (by have:=h.lvHi _ _ hb;omega) (by have:=h.lvHi _ _ hb';omega) (h.okHi _ _ hb) (h.okHi _ _ hb') ?_;funext ρ;rw[<- (h.cofs hb ρ).1,<- (h.cofs hb' ρ).1,hV,hvv]
       have:b=b':=by cases b;cases b';simp_all
       subst this;exact h.uniq _ _ _ hb hb'
      ·
       exfalso;refine nohang _ _ hb' hk' fun ρ x=>?_
       have:=h.indep_var (e:=2*(e/2)) (v:=b'.v) (Zgb hb) (by rw[hl];exact hgt) ρ x;rw[V2] at this;rw[<- hV];exact this
   omega
theorem Dag.canon (h:Dag n lev nodes V) {e e':Nat} (ho:okE nodes e) (ho':okE nodes e') (heq:ef V e=ef V e'):e=e' :=
 h.canonK n e e' (by omega) (by omega) ho ho' heq
theorem Dag.canon_iff (h:Dag n lev nodes V) {e e':Nat} (ho:okE nodes e) (ho':okE nodes e'):ef V e=ef V e'↔e=e' :=
 ⟨h.canon ho ho',fun e=>by rw[e]⟩
theorem Dag.ef0 (h:Dag n lev nodes V):ef V 0=fun _=>true:=by funext ρ;simp[ef,h.one]
theorem Dag.ef1 (h:Dag n lev nodes V):ef V 1=fun _=>false:=by funext ρ;simp[ef,h.one]
theorem Ycg {e:Nat} (h:okE nodes e):okE nodes (e ^^^ 1):=by
 have h1:(e ^^^ 1)/2=e/2:=by
  have:=Nat.shiftRight_xor_distrib (a:=e) (b:=1) (i:=1);simpa [Nat.shiftRight_eq_div_pow] using this
 unfold okE at h ⊢;rw[h1];exact h
def addN (nodes:Nat->Option BN) (id:Nat) (b:BN):Nat->Option BN:=fun i=>if i=id then some b else nodes i
def addV (V:Nat->BF) (id:Nat) (b:BN):Nat->BF:=fun i=>if i=id then iteF b.v (ef V b.hi) (ef V b.lo) else V i
theorem Zbk (id:Nat) (b:BN):addN nodes id b id=some b:=by simp[addN]
theorem Zaw {i id:Nat} (b:BN) (h:i≠id):addN nodes id b i=nodes i:=by simp[addN,h]
theorem Zmz {i id:Nat} {b x:BN} (hf:nodes id=none) (h:nodes i=some x):addN nodes id b i=some x:=by
 rw[Zaw _ (by rintro rfl;rw[hf] at h;cases h)];exact h
theorem Znr {id:Nat} {b:BN} {e:Nat} (hf:nodes id=none) (h:okE nodes e):okE (addN nodes id b) e:=by
 rcases h with h|⟨x,h⟩
 ·
  exact .inl h
 ·
  exact .inr ⟨x,Zmz hf h⟩
theorem Yca {id:Nat} {b:BN} {e:Nat} (hf:nodes id=none) (hid:id≠0) (h:okE nodes e):lvE n lev (addN nodes id b) e=lvE n lev nodes e:=by
 unfold lvE;rcases h with h|⟨x,h⟩
 ·
  rw[h,Zaw _ (Ne.symm hid)]
 ·
  rw[Zmz hf h,h]
theorem Ycz {id:Nat} {b:BN} {e:Nat} (hf:nodes id=none) (hid:id≠0) (h:okE nodes e):ef (addV V id b) e=ef V e:=by
 have:e/2≠id:=by
  rcases h with h|⟨x,h⟩
  ·
   omega
  ·
   rintro rfl;rw[hf] at h;cases h
 funext ρ;simp only[ef,addV,if_neg this]
theorem Dag.add (h:Dag n lev nodes V) {id:Nat} {b:BN} (hf:nodes id=none) (hid:id≠0) (hv:b.v<n) (hlo:okE nodes b.lo) (hhi:okE nodes b.hi)
 (llo:lev b.v<lvE n lev nodes b.lo) (lhi:lev b.v<lvE n lev nodes b.hi) (hr:b.hi%2=0) (hne:b.lo≠b.hi) (hnew:∀ i,nodes i≠some b) :
 Dag n lev (addN nodes id b) (addV V id b):=by
 have cs:∀ i x,addN nodes id b i=some x->(i=id/\x=b)\/(i≠id/\nodes i=some x):=by
  intro i x hx
  by_cases e:i=id
  ·
   subst e;rw[Zbk] at hx;exact .inl ⟨rfl,(Option.some.inj hx).symm⟩
  ·
   rw[Zaw _ e] at hx;exact .inr ⟨e,hx⟩
 have L:∀ e,okE nodes e->lvE n lev (addN nodes id b) e=lvE n lev nodes e:=fun e ho=>Yca hf hid ho
 have F:∀ e,okE nodes e->ef (addV V id b) e=ef V e:=fun e ho=>Ycz hf hid ho
 refine⟨fun ρ=>?_,?_,?_,h.inj,h.lt,?_,?_,?_,?_,?_,?_,?_,?_⟩
 ·
  simp only[addV,if_neg (Ne.symm hid),h.one]
 ·
  rw[Zaw _ (Ne.symm hid)];exact h.none0
 ·
  intro i x hx;rcases cs i x hx with ⟨_,rfl⟩|⟨_,hx⟩
  ·
   exact hv
  ·
   exact h.var _ _ hx
 ·
  intro i x hx;rcases cs i x hx with ⟨_,rfl⟩|⟨_,hx⟩
  ·
   exact Znr hf hlo
  ·
   exact Znr hf (h.okLo _ _ hx)
 ·
  intro i x hx;rcases cs i x hx with ⟨_,rfl⟩|⟨_,hx⟩
  ·
   exact Znr hf hhi
  ·
   exact Znr hf (h.okHi _ _ hx)
 ·
  intro i x hx;rcases cs i x hx with ⟨_,rfl⟩|⟨_,hx⟩
  ·
   rw[L _ hlo];exact llo
  ·
   rw[L _ (h.okLo _ _ hx)];exact h.lvLo _ _ hx
 ·
  intro i x hx;rcases cs i x hx with ⟨_,rfl⟩|⟨_,hx⟩
  ·
   rw[L _ hhi];exact lhi
  ·
   rw[L _ (h.okHi _ _ hx)];exact h.lvHi _ _ hx
 ·
  intro i x hx;rcases cs i x hx with ⟨_,rfl⟩|⟨_,hx⟩
  ·
   exact hr
  ·
   exact h.reg _ _ hx
 ·
  intro i x hx;rcases cs i x hx with ⟨_,rfl⟩|⟨_,hx⟩
  ·
   exact hne
  ·
   exact h.ne _ _ hx
 ·
  intro i j x hx hy;rcases cs i x hx with ⟨e1,e⟩|⟨_,hx'⟩
  ·
   rcases cs j x hy with ⟨e2,_⟩|⟨_,hy'⟩
   ·
    rw[e1,e2]
   ·
    subst e;exact absurd hy' (hnew _)
  ·
   rcases cs j x hy with ⟨_,e⟩|⟨_,hy'⟩
   ·
    subst e;exact absurd hx' (hnew _)
   ·
    exact h.uniq _ _ _ hx' hy'
 ·
  intro i x hx;rcases cs i x hx with ⟨rfl,rfl⟩|⟨hne',hx⟩
  ·
   rw[F _ hlo,F _ hhi];simp only[addV,if_true]
  ·
   rw[F _ (h.okLo _ _ hx),F _ (h.okHi _ _ hx)];simp only[addV,if_neg hne'];exact h.eqn _ _ hx
theorem Dag.restrict (h:Dag n lev nodes V) (nodes':Nat->Option BN) (hsub:∀ i b,nodes' i=some b->nodes i=some b)
 (hlo:∀ i b,nodes' i=some b->okE nodes' b.lo/\okE nodes' b.hi):Dag n lev nodes' V:=by
 have h0:nodes' 0=none:=by
  cases e:nodes' 0 with
  | none=>rfl
  | some b=>have:=hsub _ _ e;rw[h.none0] at this;cases this
 have L:∀ e,okE nodes' e->lvE n lev nodes' e=lvE n lev nodes e:=by
  intro e ho;unfold lvE;rcases ho with ho|⟨x,ho⟩
  ·
   rw[ho,h0,h.none0]
  ·
   rw[ho,hsub _ _ ho]
 exact⟨h.one,h0,fun i b hb=>h.var i b (hsub _ _ hb),h.inj,h.lt,fun i b hb=>(hlo i b hb).1,fun i b hb=>(hlo i b hb).2,
  fun i b hb=>by rw[L _ (hlo i b hb).1];exact h.lvLo i b (hsub _ _ hb),fun i b hb=>by rw[L _ (hlo i b hb).2];exact h.lvHi i b (hsub _ _ hb),
  fun i b hb=>h.reg i b (hsub _ _ hb),fun i b hb=>h.ne i b (hsub _ _ hb),fun i j b hi hj=>h.uniq i j b (hsub _ _ hi) (hsub _ _ hj),fun i b hb=>h.eqn i b (hsub _ _ hb)⟩
end
open Go.RowKit
theorem Zqy (e:Nat):(e ^^^ 1)/2=e/2:=by
 have:=Nat.shiftRight_xor_distrib (a:=e) (b:=1) (i:=1);simpa [Nat.shiftRight_eq_div_pow] using this
theorem Ycw {e n:Nat} (h:e<2*n):e ^^^ 1<2*n:=by have:=Zqy e;omega
theorem Zvs (e:Nat) (he:e<4611686018427387904):bits .xor .i64 (e:Int) 1=((e ^^^ 1:Nat):Int):=by
 have hx:e ^^^ 1<4611686018427387904:=Ycw (n:=2305843009213693952) (by omega);have ea:BitVec.ofInt 64 ((e:Nat):Int)=BitVec.ofNat 64 e:=BitVec.ofInt_ofNat 64 e;have eb:BitVec.ofInt 64 1=BitVec.ofNat 64 1:=rfl;have key:bits .xor .i64 (e:Int) 1=IntKind.i64.wrap (((BitVec.ofInt 64 ((e:Nat):Int)) ^^^ (BitVec.ofInt 64 1)).toNat:Nat):=rfl;rw[key,ea,eb,BitVec.toNat_xor,BitVec.toNat_ofNat,BitVec.toNat_ofNat,Nat.mod_eq_of_lt (by omega),Nat.mod_eq_of_lt (by omega),IntKind.wrap_i64];omega
def eMax:Nat:=4611686018427387904
def enot (e:Nat):Nat:=e ^^^ 1
def eflip (e:Nat) (b:Bool):Nat:=if b then enot e else e
def enode (e:Nat):Nat:=e/2
def eneg (e:Nat):Bool:=e%2 == 1
theorem Zdt (e:Nat):enot e/2=e/2:=Zqy e
theorem Zcm (e:Nat) (b:Bool):eflip e b/2=e/2:=by unfold eflip;(split;· exact Zdt e);rfl
theorem Zjl (e:Nat):enot e%2=1-e%2:=by
 unfold enot;have:=Nat.xor_mod_two_pow (a:=e) (b:=1) (n:=1);simp at this;rw[this];rcases Nat.mod_two_eq_zero_or_one e with h|h<;>rw[h]<;>rfl
theorem Zwf (e:Nat):enot e=if e%2=0 then e+1 else e-1:=by
 have h1:=Zdt e;have h2:=Zjl e;split<;>omega
theorem Zo6 (e:Nat):enot (enot e)=e:=by
 have h1:=Zwf e;have h2:=Zwf (enot e);have h3:=Zjl e;split at h2<;>split at h1<;>omega
theorem Zfz (V:Nat->BF) (e:Nat) (ρ:Nat->Bool):ef V (enot e) ρ = !ef V e ρ:=Yc0 V e ρ
theorem Zcy (V:Nat->BF) (e:Nat) (b:Bool) (ρ:Nat->Bool):ef V (eflip e b) ρ=(b != ef V e ρ):=by
 unfold eflip;cases b
 ·
  simp
 ·
  simp[Zfz]
theorem Zns {N:Nat->Option BN} {e:Nat} (h:okE N e):okE N (enot e):=Ycg h
theorem Zdx {N:Nat->Option BN} {e:Nat} {b:Bool} (h:okE N e):okE N (eflip e b):=by unfold eflip;(split;· exact Zns h);exact h
theorem Zno (e:Nat) (w:World) (he:e<eMax) :
 Calls Tryz.prog 40 #[.int .i64 e] w fun x w'=>x=.returned (.int .i64 (enot e:Nat))/\w=w':=by
 have hb:=Zvs e he
 go_enter Tryz.func40,Tryz.ntmps40
 go_wp2
 go_ret;exact⟨rfl,rfl⟩
theorem Zb1 (e:Nat) (b:Bool) (w:World) (he:e<eMax) :
 Calls Tryz.prog 100 #[.int .i64 e,.bool b] w fun x w'=>x=.returned (.int .i64 (eflip e b:Nat))/\w=w':=by
 cases b
 ·
  go_enter Tryz.func100,Tryz.ntmps100
  go_wp2
  go_ret;exact⟨rfl,rfl⟩
 ·
  go_enter Tryz.func100,Tryz.ntmps100
  go_wp2_with fail;refine(Zno e _ he).mono ?_;rintro x w' ⟨rfl,rfl⟩;go_wp2_with fail;go_ret;exact⟨rfl,rfl⟩
theorem Zbs (e:Nat) (w:World) (he:e<eMax) :
 Calls Tryz.prog 106 #[.int .i64 e] w fun x w'=>x=.returned (.int .i64 (enode e:Nat))/\w=w':=by
 unfold eMax at he;have hm:max (e:Int) 0=e:=by omega
 have hd:(e:Int).tdiv 2=(e:Int)/2:=Int.tdiv_eq_ediv_of_nonneg (by omega);have HX:Hid (((enode e:Nat):Int)=(e:Int)/2):=by show _=_;unfold enode;omega
 go_enter Tryz.func106,Tryz.ntmps106
 go_wp2
 go_ret;exact⟨Zrs HX.out.symm,rfl⟩
theorem Zf9 (e:Nat) (w:World) (he:e<eMax) :
 Calls Tryz.prog 85 #[.int .i64 e] w fun x w'=>x=.returned (.bool (eneg e))/\w=w':=by
 unfold eMax at he
 by_cases hp:0<e
 ·
  have hp':(0:Int)<e:=by omega
  have hm:(e:Int).tmod 2=(e:Int)%2:=Int.tmod_eq_emod_of_nonneg (by omega)
  by_cases h1:e%2=1
  ·
   have H1:((e:Int)%2 == 1)=true:=by simp;omega
   have HX:Hid (eneg e=true):=by show _=_;simp[eneg,h1]
   clear h1
   go_enter Tryz.func85,Tryz.ntmps85
   go_wp2
   go_ret;exact⟨Zde HX.out.symm,rfl⟩
  ·
   have H1:((e:Int)%2 == 1)=false:=by simp;omega
   have HX:Hid (eneg e=false):=by show _=_;simp[eneg];omega
   clear h1
   go_enter Tryz.func85,Tryz.ntmps85
   go_wp2
   go_ret;exact⟨Zde HX.out.symm,rfl⟩
 ·
  obtain rfl:e=0:=by omega
  go_enter Tryz.func85,Tryz.ntmps85
  go_wp2
  go_ret;exact⟨Zde (by decide),rfl⟩
theorem Zoy (e:Nat) (w:World) (he:e<eMax) :
 Calls Tryz.prog 152 #[.int .i64 e] w fun x w'=>x=.returned (.bool (decide (enode e=0)))/\w=w':=by
 go_enter Tryz.func152,Tryz.ntmps152
 go_wp2_with fail;refine(Zbs e _ he).mono ?_;rintro x w' ⟨rfl,rfl⟩
 by_cases h:enode e=0
 ·
  have H:((enode e:Int) == 0)=true:=by simp[h]
  have HX:Hid (decide (enode e=0)=true):=by show _=_;simp[h]
  clear h;go_wp2_with fail;go_ret;exact⟨Zde HX.out.symm,rfl⟩
 ·
  have H:((enode e:Int) == 0)=false:=by simp;exact h
  have HX:Hid (decide (enode e=0)=false):=by show _=_;simp[h]
  clear h;go_wp2_with fail;go_ret;exact⟨Zde HX.out.symm,rfl⟩
theorem Znn (lo hi:Nat) (w:World) (hl:lo<eMax) (hh:hi<eMax) :
 Calls Tryz.prog 146 #[.int .i64 lo,.int .i64 hi] w fun x w'=>x=.returned (.tuple #[.int .i64 (eflip lo (eneg hi):Nat),.int .i64 (eflip hi (eneg hi):Nat),.bool (eneg hi)])/\w=w':=by
 obtain⟨b,hb⟩:∃ b,eneg hi=b:=⟨_,rfl⟩;rw[hb];have HB:=Hd hb;clear hb
 go_enter Tryz.func146,Tryz.ntmps146
 go_wp2_with fail;refine(Zf9 hi _ hh).mono ?_;rintro x w' ⟨rfl,rfl⟩;rw[HB.out];go_wp2_with fail;refine(Zb1 lo _ _ hl).mono ?_;rintro x w' ⟨rfl,rfl⟩;go_wp2_with fail;refine(Zb1 hi _ _ hh).mono ?_;rintro x w' ⟨rfl,rfl⟩;go_wp2_with fail
 go_ret3
 exact⟨rfl,rfl⟩
theorem Zxn (id:Nat) (b:Bool) (w:World) (hi:id<2305843009213693952) :
 Calls Tryz.prog 149 #[.int .i64 id,.bool b] w fun x w'=>x=.returned (.int .i64 (eflip (2*id) b:Nat))/\w=w':=by
 have hm:max (id:Int) 0=id:=by omega
 have he:2*id<eMax:=by unfold eMax;omega
 have HC:Hid ((2:Int)*id=((2*id:Nat):Int)):=by show _=_;omega
 go_enter Tryz.func149,Tryz.ntmps149
 go_wp2_with fail;rw[HC.out];refine(Zb1 (2*id) b _ he).mono ?_;rintro x w' ⟨rfl,rfl⟩;go_wp2_with fail;go_ret;exact⟨rfl,rfl⟩
end Go.Proofs.YtlgogjbkadckkaaGreat

namespace Go.Proofs.YtlgogjbkadckkaaGreat
def Zar:Nat->(Nat->Int)->Int
 | 0,_=>0
 | k+1,f=>Zar k f+f k
theorem Zax {f g:Nat->Int}:∀ (k:Nat),(∀ i,i<k->f i=g i)->Zar k f=Zar k g
 | 0,_=>rfl
 | k+1,h=>by rw[Zar,Zar,Zax k (fun i hi=>h i (by omega)),h k (by omega)]
theorem Zc6:∀ (k:Nat),Zar k (fun _=>0)=0
 | 0=>rfl
 | k+1=>by rw[Zar,Zc6 k];rfl
theorem Zdg {f g:Nat->Int} {j:Nat} (hfg:∀ i,i≠j->g i=f i):∀ (k:Nat),j<k->Zar k g=Zar k f+(g j-f j)
 | 0,h=>by omega
 | k+1,h=>by
   rw[Zar,Zar]
   by_cases e:j=k
   ·
    subst e;rw[Zax j (fun i hi=>hfg i (by omega))];omega
   ·
    rw[Zdg hfg k (by omega),hfg k (Ne.symm e)];omega
theorem Zeo {f:Nat->Int}:∀ (k:Nat),(∀ i,i<k->0<=f i)->0<=Zar k f
 | 0,_=>Int.le_refl 0
 | k+1,h=>by rw[Zar];have:=Zeo k (fun i hi=>h i (by omega));have:=h k (by omega);omega
theorem Zjt {f:Nat->Int} {j:Nat}:∀ (k:Nat),(∀ i,i<k->0<=f i)->j<k->f j<=Zar k f
 | 0,_,h=>by omega
 | k+1,h,hj=>by
   rw[Zar]
   by_cases e:j=k
   ·
    subst e;have:=Zeo j (fun i hi=>h i (by omega));omega
   ·
    have:=Zjt k (fun i hi=>h i (by omega)) (j:=j) (by omega);have:=h k (by omega);omega
theorem Zmn {f:Nat->Int} (k:Nat):∀ (m:Nat),(∀ i,k<=i->f i=0)->Zar (k+m) f=Zar k f
 | 0,_=>rfl
 | m+1,h=>by rw[<- Nat.add_assoc,Zar,Zmn k m h,h (k+m) (by omega)];omega
theorem Zqi {f:Nat->Int} {k k':Nat} (h:∀ i,k<=i->f i=0) (hk:k<=k'):Zar k' f=Zar k f:=by
 obtain⟨m,rfl⟩:=Nat.le.dest hk;exact Zmn k m h
def toE (e x:Nat):Int:=if e/2=x then 1 else 0
theorem Zbq (e x:Nat):0<=toE e x:=by unfold toE;split<;>omega
theorem Ziv (e:Nat):toE e (e/2)=1:=by simp[toE]
def Zdl (b:BN) (x:Nat):Int:=toE b.lo x+toE b.hi x
def from1 (N:Nat->Option BN) (c:Nat->Nat) (x p:Nat):Int :=
 match N p with
 | some b=>if 0<c p then Zdl b x else 0
 | none=>0
theorem Zi4 (N:Nat->Option BN) (c:Nat->Nat) (x p:Nat):0<=from1 N c x p:=by
 unfold from1 Zdl;split
 ·
  rename_i b _;have:=Zbq b.lo x;have:=Zbq b.hi x;split<;>omega
 ·
  omega
structure Cnt (k:Nat) (N:Nat->Option BN) (c:Nat->Nat) (ext:Nat->Int):Prop where
 lt:∀ i b,N i=some b->i<k
 eq:∀ x b,N x=some b->(c x:Int)=ext x+Zar k (from1 N c x)
def bump (f:Nat->Int) (x:Nat) (d:Int):Nat->Int:=fun i=>if i=x then f i+d else f i
def setC (c:Nat->Nat) (x v:Nat):Nat->Nat:=fun i=>if i=x then v else c i
def addE (f:Nat->Int) (e:Nat) (d:Int):Nat->Int:=fun i=>f i+d*toE e i
section
variable {k:Nat} {N:Nat->Option BN} {c:Nat->Nat} {ext:Nat->Int}
theorem Cnt.congr (h:Cnt k N c ext) {ext':Nat->Int} (he:∀ x b,N x=some b->ext' x=ext x):Cnt k N c ext' :=
 ⟨h.lt,fun x b hb=>by rw[he x b hb];exact h.eq x b hb⟩
theorem Cnt.weaken (h:Cnt k N c ext) {k':Nat} (hk:k<=k'):Cnt k' N c ext :=
 ⟨fun i b hb=>Nat.lt_of_lt_of_le (h.lt i b hb) hk,fun x b hb=>by
  rw[h.eq x b hb,Zqi (fun i hi=>by
   unfold from1;cases e:N i with
   | none=>rfl
   | some b=>have:=h.lt i b e;omega) hk]⟩
theorem Cnt.moreLive (h:Cnt k N c ext) {x:Nat} (hc:0<c x):Cnt k N (setC c x (c x+1)) (bump ext x 1):=by
 refine⟨h.lt,fun z b hb=>?_⟩;have e1:Zar k (from1 N (setC c x (c x+1)) z)=Zar k (from1 N c z):=Zax k fun i _=>by
  unfold from1;cases N i with
  | none=>rfl
  | some b =>
    by_cases e:i=x
    ·
     subst e;simp only[setC,if_true,hc,show 0<c i+1 from by omega]
    ·
     simp only[setC,if_neg e]
 rw[e1];have:=h.eq z b hb
 by_cases e:z=x
 ·
  subst e;simp only[setC,bump,if_true];omega
 ·
  simp only[setC,bump,if_neg e];exact this
theorem Cnt.moreDead (h:Cnt k N c ext) {x:Nat} {b:BN} (hx:N x=some b) (hc:c x=0) :
 Cnt k N (setC c x 1) (addE (addE (bump ext x 1) b.lo (-1)) b.hi (-1)):=by
 refine⟨h.lt,fun z b' hb'=>?_⟩;have e1:Zar k (from1 N (setC c x 1) z)=Zar k (from1 N c z)+(from1 N (setC c x 1) z x-from1 N c z x):=by
  refine Zdg (fun i hi=>?_) k (h.lt x b hx);unfold from1;simp only[setC,if_neg hi]
 have e2:from1 N (setC c x 1) z x=Zdl b z:=by simp[from1,hx,setC]
 have e3:from1 N c z x=0:=by simp[from1,hx,hc]
 rw[e1,e2,e3];have:=h.eq z b' hb';unfold Zdl;simp only[addE,bump,setC]
 by_cases e:z=x
 ·
  subst e;simp only[if_true];omega
 ·
  simp only[if_neg e];omega
theorem Cnt.lessLive (h:Cnt k N c ext) {x:Nat} (hc:1<c x):Cnt k N (setC c x (c x-1)) (bump ext x (-1)):=by
 refine⟨h.lt,fun z b hb=>?_⟩;have e1:Zar k (from1 N (setC c x (c x-1)) z)=Zar k (from1 N c z):=Zax k fun i _=>by
  unfold from1;cases N i with
  | none=>rfl
  | some b =>
    by_cases e:i=x
    ·
     subst e;simp only[setC,if_true,show 0<c i from by omega,show 0<c i-1 from by omega]
    ·
     simp only[setC,if_neg e]
 rw[e1];have:=h.eq z b hb
 by_cases e:z=x
 ·
  subst e;simp only[setC,bump,if_true];omega
 ·
  simp only[setC,bump,if_neg e];exact this
theorem Cnt.lessDies (h:Cnt k N c ext) {x:Nat} {b:BN} (hx:N x=some b) (hc:c x=1) :
 Cnt k N (setC c x 0) (addE (addE (bump ext x (-1)) b.lo 1) b.hi 1):=by
 refine⟨h.lt,fun z b' hb'=>?_⟩;have e1:Zar k (from1 N (setC c x 0) z)=Zar k (from1 N c z)+(from1 N (setC c x 0) z x-from1 N c z x):=by
  refine Zdg (fun i hi=>?_) k (h.lt x b hx);unfold from1;simp only[setC,if_neg hi]
 have e2:from1 N (setC c x 0) z x=0:=by simp[from1,hx,setC]
 have e3:from1 N c z x=Zdl b z:=by simp[from1,hx,hc]
 rw[e1,e2,e3];have:=h.eq z b' hb';unfold Zdl;simp only[addE,bump,setC]
 by_cases e:z=x
 ·
  subst e;simp only[if_true];omega
 ·
  simp only[if_neg e];omega
theorem Cnt.pos_of_ext (h:Cnt k N c ext) {x:Nat} {b:BN} (hx:N x=some b) (he:1<=ext x):0<c x:=by
 have:=h.eq x b hx;have h2:0<=Zar k (from1 N c x):=Zeo k fun i _=>Zi4 N c x i
 omega
theorem Cnt.pos_of_live (h:Cnt k N c ext) {p:Nat} {bp:BN} (hp:N p=some bp) (hc:0<c p) {e:Nat} (he:e=bp.lo\/e=bp.hi) {b:BN} (hx:N (e/2)=some b) (h0:0<=ext (e/2)):0<c (e/2):=by
 have:=h.eq _ b hx;have h2:from1 N c (e/2) p<=Zar k (from1 N c (e/2)):=Zjt k (fun i _=>Zi4 N c _ i) (h.lt p bp hp);have h3:1<=from1 N c (e/2) p:=by
  simp only[from1,hp,hc,if_true,Zdl];have a:=Zbq bp.lo (e/2);have b:=Zbq bp.hi (e/2);rcases he with rfl|rfl
  ·
   have:=Ziv bp.lo;omega
  ·
   have:=Ziv bp.hi;omega
 omega
theorem Cnt.collect (h:Cnt k N c ext) (N':Nat->Option BN) (hN:∀ i,N' i=if 0<c i then N i else none):Cnt k N' c ext:=by
 refine⟨fun i b hb=>?_,fun x b hb=>?_⟩
 ·
  rw[hN] at hb;split at hb
  ·
   exact h.lt i b hb
  ·
   cases hb
 ·
  have hb':N x=some b:=by
   rw[hN] at hb;split at hb
   ·
    exact hb
   ·
    cases hb
  rw[h.eq x b hb'];congr 1;refine Zax k fun i _=>?_
  unfold from1;rw[hN]
  by_cases hc:0<c i
  ·
   rw[if_pos hc]
  ·
   rw[if_neg hc];cases N i with
   | none=>rfl
   | some b=>simp[hc]
theorem Cnt.add (h:Cnt k N c ext) {id:Nat} {b:BN} (hf:N id=none) (hno:∀ i bi,N i=some bi->bi.lo/2≠id/\bi.hi/2≠id) (hid:id<k) :
 Cnt k (addN N id b) (setC c id 0) (fun i=>if i=id then 0 else ext i):=by
 have hs:∀ x,Zar k (from1 (addN N id b) (setC c id 0) x)=Zar k (from1 N c x):=fun x=>Zax k fun i _=>by
  unfold from1
  by_cases e:i=id
  ·
   subst e;rw[Zbk,hf];simp[setC]
  ·
   rw[Zaw _ e];simp only[setC,if_neg e]
 refine⟨fun i b' hb=>?_,fun x b' hb=>?_⟩
 ·
  by_cases e:i=id
  ·
   rw[e];exact hid
  ·
   rw[Zaw _ e] at hb;exact h.lt i b' hb
 ·
  rw[hs]
  by_cases e:x=id
  ·
   subst e;simp only[setC,if_true];rw[Zax k (g:=fun _=>0) (fun i _=>?_),Zc6]
   ·
    rfl
   ·
    unfold from1;cases hi:N i with
    | none=>rfl
    | some bi =>
      have:=hno i bi hi;simp[Zdl,toE,this.1,this.2]
  ·
   rw[Zaw _ e] at hb;simp only[setC,if_neg e];exact h.eq x b' hb
theorem Cnt.setLive (h:Cnt k N c ext) {x:Nat} {b b':BN} (hx:N x=some b) (hc:0<c x) :
 Cnt k (fun i=>if i=x then some b' else N i) c (addE (addE (addE (addE ext b.lo 1) b.hi 1) b'.lo (-1)) b'.hi (-1)):=by
 refine⟨fun i b2 hb=>?_,fun z b2 hb=>?_⟩
 ·
  split at hb
  ·
   rename_i e;rw[e];exact h.lt x b hx
  ·
   exact h.lt i b2 hb
 ·
  have hz:∃ q,N z=some q:=by
   split at hb
   ·
    rename_i e;rw[e];exact⟨b,hx⟩
   ·
    exact⟨b2,hb⟩
  obtain⟨q,hq⟩:=hz;have e1:Zar k (from1 (fun i=>if i=x then some b' else N i) c z)=Zar k (from1 N c z)+(from1 (fun i=>if i=x then some b' else N i) c z x-from1 N c z x):=by
   refine Zdg (fun i hi=>?_) k (h.lt x b hx);unfold from1;simp only[if_neg hi]
  have e2:from1 (fun i=>if i=x then some b' else N i) c z x=Zdl b' z:=by simp[from1,hc]
  have e3:from1 N c z x=Zdl b z:=by simp[from1,hx,hc]
  rw[e1,e2,e3];have:=h.eq z q hq;unfold Zdl;simp only[addE];omega
end
def dead1 (N:Nat->Option BN) (c:Nat->Nat) (i:Nat):Int :=
 match N i with
 | some _=>if c i=0 then 1 else 0
 | none=>0
def Zd2 (k:Nat) (N:Nat->Option BN) (c:Nat->Nat):Int:=Zar k (dead1 N c)
theorem Zi1 (N:Nat->Option BN) (c:Nat->Nat) (i:Nat):0<=dead1 N c i:=by unfold dead1;split<;>first|omega|(split<;>omega)
theorem Zgm {k:Nat} {N:Nat->Option BN} {c:Nat->Nat} {x v:Nat} {b:BN} (hx:N x=some b) (hk:x<k) :
 Zd2 k N (setC c x v)=Zd2 k N c+((if v=0 then 1 else 0)-(if c x=0 then 1 else 0)):=by
 unfold Zd2;rw[Zdg (f:=dead1 N c) (j:=x) (fun i hi=>?_) k hk]
 ·
  simp[dead1,hx,setC]
 ·
  unfold dead1;simp only[setC,if_neg hi]
open Go.RowKit
section
variable {P:Program} {ops:Array Oper} {S:World->Prop} {Q:Exit->Act->World->Prop} {last:Bool}
def reaches (ops:Array Oper):Nat->Nat->Nat->Bool
 | 0,_,_=>false
 | f+1,i,j=>match ops[j]? with
   | none=>false
   | some oj=>oj.after.any fun e=>Region.binds .any e&&(e.on == i||reaches ops f i e.on)
def Closed (ops:Array Oper) (L:Array Bool):Prop:=∀ j oj,ops[j]?=some oj->L.getD j false=true->∀ e∈oj.after,Region.binds .any e=true->L.getD e.on false=true
theorem Zej (n:Nat):Closed ops (Array.replicate n false):=by
 intro j oj _ h;rcases Nat.lt_or_ge j n with h'|h'<;>simp[h'] at h
theorem Closed.set {L:Array Bool} (h:Closed ops L) {i:Nat} (hi:i∈Region.ready .any ops L):Closed ops (L.setIfInBounds i true):=by
 obtain⟨_,oi,hoi,hall⟩:=mem_ready.1 hi;intro j oj hj hl e he hb
 by_cases hij:i=j
 ·
  subst hij;obtain rfl:oj=oi:=Option.some.inj (hj.symm.trans hoi);exact getD_set_true (hall e he hb)
 ·
  rw[getD_set_ne false hij] at hl;exact getD_set_true (h j oj hj hl e he hb)
theorem Zcw {L:Array Bool} (hc:Closed ops L) {i:Nat}:∀ (f j:Nat),(j∈Region.ready .any ops L\/L.getD j false=true)->reaches ops f i j=true->L.getD i false=true
 | 0,_,_,h=>by simp[reaches] at h
 | f+1,j,hj,h=>by
   unfold reaches at h;split at h
   ·
    cases h
   ·
    rename_i oj hoj
    obtain⟨e,he,h2⟩:=Array.any_eq_true'.1 h;simp only[Bool.and_eq_true,Bool.or_eq_true,beq_iff_eq] at h2;have hl:L.getD e.on false=true:=by
     rcases hj with hj|hj
     ·
      obtain⟨_,o',ho',hall⟩:=mem_ready.1 hj;obtain rfl:o'=oj:=Option.some.inj (ho'.symm.trans hoj);exact hall e he h2.1
     ·
      exact hc j oj hoj hj e he h2.1
    rcases h2.2 with e1|e1
    ·
     rw[<- e1];exact hl
    ·
     exact Zcw hc f e.on (.inr hl) e1
theorem Zrf {L:Array Bool} {i:Nat} (h:L.getD i true=false):L.getD i false=false:=by
 rcases Nat.lt_or_ge i L.size with h'|h'
 ·
  simp[h'] at h ⊢;exact h
 ·
  simp[Array.getElem?_eq_none h'] at h
def Zlb (P:Program) (ops:Array Oper) (Q:Exit->Act->World->Prop) (S:World->Prop) (m:Nat):Nat->Array Bool->Act->World->Prop
 | 0,L,a,w=>Region.ready .any ops L=[]/\Q .normal a w
 | f+1,L,a,w=>(Region.ready .any ops L=[]->Q .normal a w) /\
   ∀ i∈Region.ready .any ops L,wpOp P ops Q i (fun a' w'=>(i=m\/S w')/\Zlb P ops Q S m f (L.setIfInBounds i true) a' w') a w
theorem Zgy {m:Nat}:∀ (f:Nat) (L:Array Bool) (a:Act) (w:World),Zlb P ops Q S m f L a w->wpAny P .any ops Q f L a w
 | 0,_,_,_,h=>h
 | f+1,_,_,_,h=>⟨h.1,fun i hi=>wpOp_mono (fun a' w' h'=>Zgy f _ a' w' h'.2) (h.2 i hi)⟩
theorem Zgh {m i:Nat} {oi:Oper} {v:Value} (hi:ops[i]?=some oi) (hs:Region.noSelect ops=true) (hQ:∀ c (a:Act) d v w,Q (.panic c) (a.put d v) w->Q (.panic c) a w)
 (hm:(decide (ops.size<=m)||reaches ops ops.size i m)=true) :
 ∀ (f:Nat) (L:Array Bool) (a:Act) (w:World),Closed ops L ->
  (∀ j oj,ops[j]?=some oj->j≠i->L.getD j true=false->(∀ e∈oj.after,Region.binds .any e=true->e.on≠i)->oi.apart ops oj=true) ->
  i∈Region.ready .any ops L->YieldsIf P ops S oi v a->S w ->
  Zlb P ops Q S m f (L.setIfInBounds i true) (a.put oi.dst v) w->Zlb P ops Q S m (f+1) L a w:=by
 intro f
 induction f with
 | zero =>
   intro L a w _ _ hr hy hS H;refine⟨fun h=>(by rw[h] at hr;cases hr),fun j hj=>?_⟩
   by_cases hji:j=i
   ·
    subst hji;exact hy.wpOp hi hS ⟨.inr hS,H⟩
   ·
    have:=ready_mono hj hji;rw[H.1] at this;cases this
 | succ f ih =>
   intro L a w hc hfree hr hy hS H;refine⟨fun h=>(by rw[h] at hr;cases hr),fun j hj=>?_⟩
   by_cases hji:j=i
   ·
    subst hji;exact hy.wpOp hi hS ⟨.inr hS,H⟩
   ·
    have h1:=H.2 j (ready_mono hj hji);obtain⟨hjun,oj,hoj,hall⟩:=mem_ready.1 hj;have hiun:=Zrf (mem_ready.1 hr).1;have hnot:∀ e∈oj.after,Region.binds .any e=true->e.on≠i:=fun e he hb heq=>by
     have h1:=hall e he hb;rw[heq,hiun] at h1;cases h1
    have hjm:j≠m:=by
     rintro rfl;simp only[Bool.or_eq_true,decide_eq_true_eq] at hm;rcases hm with hm|hm
     ·
      have:=(Array.getElem?_eq_some_iff.1 hoj).1;omega
     ·
      have:=Zcw hc _ _ (.inl hj) hm;rw[hiun] at this;cases this
    have h2:=wpOp_putIf hoj (hfree j oj hoj hji hjun hnot) (fun cs b=>Region.noSelect_spec hs i oi cs b hi) (fun cs b=>Region.noSelect_spec hs j oj cs b hoj) (fun c a w=>hQ c a _ _ w) hy h1;have hfree':∀ k ok,ops[k]?=some ok->k≠i->(L.setIfInBounds j true).getD k true=false ->
     (∀ e∈ok.after,Region.binds .any e=true->e.on≠i)->oi.apart ops ok=true:=fun k ok hk hki hun hno=>by
     refine hfree k ok hk hki ?_ hno
     by_cases hjk:j=k
     ·
      subst hjk;exact hjun
     ·
      rw[getD_set_ne true hjk] at hun;exact hun
    refine wpOp_mono (fun a' w' h3=>?_) h2;have hS':=h3.2.1.resolve_left hjm;refine⟨.inr hS',ih (L.setIfInBounds j true) a' w' (hc.set hj) hfree' (ready_mono hr (Ne.symm hji)) h3.1 hS' ?_⟩;rw[Array.setIfInBounds_comm _ _ hji];exact h3.2.2
def mixB (ops:Array Oper) (m:Nat):List (Nat×Bool)->Array Bool->Bool
 | [],L=>(Region.ready .any ops L).isEmpty
 | (i,true)::r,L=>decide (Region.ready .any ops L=[i])&&mixB ops m r (L.setIfInBounds i true)
 | (i,false)::r,L=>(Region.ready .any ops L).contains i&&Region.free .any ops L i&&(decide (ops.size<=m)||reaches ops ops.size i m)&&mixB ops m r (L.setIfInBounds i true)
def Zck (P:Program) (ops:Array Oper) (Q:Exit->Act->World->Prop) (S:World->Prop) (last:Bool):List (Option Oper×Bool)->Act->World->Prop
 | [],a,w=>Q .normal a w
 | (none,_)::_,_,_=>False
 | (some o,false)::r,a,w=>∃ v,YieldsIf P ops S o v a/\Zck P ops Q S last r (a.put o.dst v) w
 | (some o,true)::r,a,w=>if Region.wanted o (yielded ops a.tmps) then o.wp P a w (fun a' w'=>((last&&r.isEmpty)=true\/S w')/\Zck P ops Q S last r a' w') Q else Zck P ops Q S last r (a.put o.dst undef) w
def planned (l:List Oper) (seq:List (Nat×Bool)):List (Option Oper×Bool):=seq.map fun p=>(l[p.1]?,p.2)
theorem Zd3 {l:List Oper} {m:Nat} {last:Bool} (hs:Region.noSelect l.toArray=true) (hQ:∀ c (a:Act) d v w,Q (.panic c) (a.put d v) w->Q (.panic c) a w) :
 ∀ (seq:List (Nat×Bool)) (L:Array Bool) (a:Act) (w:World),(last=true->(seq.getLast?.map (·.1)=some m\/seq=[])) ->
 mixB l.toArray m seq L=true->Closed l.toArray L->S w\/seq=[]->Zck P l.toArray Q S last (planned l seq) a w->Zlb P l.toArray Q S m seq.length L a w
 | [],L,a,w,_,hB,_,_,h=>⟨by simpa [mixB,List.isEmpty_iff] using hB,h⟩
 | (i,b)::r,L,a,w,hl,hB,hc,hS,h=>by
   have hS0:=hS.resolve_right (by simp);have hl':last=true->(r.getLast?.map (·.1)=some m\/r=[]):=fun e=>by
    cases r with
    | nil=>exact .inr rfl
    | cons x r=>left;simpa using(hl e).resolve_right (by simp)
   cases hi:l[i]? with
   | none=>simp only[planned,List.map_cons,hi,Zck] at h
   | some o =>
     have hi':l.toArray[i]?=some o:=by simpa using hi
     simp only[planned,List.map_cons,hi] at h;cases b with
     | false =>
       simp only[mixB,Bool.and_eq_true] at hB;obtain⟨⟨⟨hr,hf⟩,hm⟩,hB⟩:=hB;obtain⟨v,hy,hn⟩:=h;have hr':i∈Region.ready .any l.toArray L:=by simpa using hr
       exact Zgh hi' hs hQ hm _ L a w hc (Region.free_spec hi' hf) hr' hy hS0 (Zd3 hs hQ r _ _ w hl' hB (hc.set hr') (.inl hS0) hn)
     | true =>
       simp only[mixB,Bool.and_eq_true,decide_eq_true_eq] at hB;obtain⟨hr,hB⟩:=hB;refine⟨fun h0=>(by rw[h0] at hr;cases hr),fun j hj=>?_⟩;have hij:j=i:=by rw[hr] at hj;simpa using hj
       subst hij;simp only[Zck] at h;unfold wpOp;rw[hi']
       by_cases hw:Region.wanted o (yielded l.toArray a.tmps)=true
       ·
        simp only[hw,if_true] at h ⊢;left;refine Oper.wp_mono ?_ h;intro a' w' ⟨h1,h2⟩;refine⟨?_,?_⟩
        ·
         rcases h1 with h1|h1
         ·
          simp only[Bool.and_eq_true,List.isEmpty_iff,List.map_eq_nil_iff] at h1;obtain⟨h1,rfl⟩:=h1;left;simpa using(hl h1)
         ·
          exact .inr h1
        ·
         refine Zd3 hs hQ r _ _ w' hl' hB (hc.set hj) ?_ h2;rcases h1 with h1|h1
         ·
          simp only[Bool.and_eq_true,List.isEmpty_iff,List.map_eq_nil_iff] at h1;exact .inr h1.2
         ·
          exact .inl h1
       ·
        simp only[hw] at h ⊢;exact⟨.inr hS0,Zd3 hs hQ r _ _ w hl' hB (hc.set hj) (.inl hS0) h⟩
def NP (Q:Exit->Act->World->Prop):Exit->Act->World->Prop
 | .panic _,_,_=>False
 | e,a,w=>Q e a w
theorem Ztn {s:Code} {a:Act} {w:World} (h:s.wp P (NP Q) a w):s.wp P Q a w :=
 Code.wp_mono (fun e a w h=>by cases e<;>first|exact h|exact h.elim) h
theorem Zan {id:Nat} {a:Act} {w:World} {l:List Oper} (S:World->Prop) (last:Bool) (m:Nat) (seq:List (Nat×Bool)) (hm:P.follows .mixedOrders=true)
 (hB:(Region.noSelect l.toArray&&decide (seq.length=l.toArray.size)&&(!last||decide (seq.getLast?.map (·.1)=some m))&&mixB l.toArray m seq (Array.replicate l.toArray.size false))=true)
 (hS:S w.drew) (h:Zck P l.toArray (NP Q) S last (planned l seq) a w.drew):(Code.region id l.toArray true).wp P Q a w:=by
 simp only[Bool.and_eq_true,decide_eq_true_eq] at hB;obtain⟨⟨⟨hs,hlen⟩,hl⟩,hB⟩:=hB;refine Ztn (wp_region_any hm (Zgy _ _ _ _ ?_ (S:=S) (m:=m)));rw[<- hlen];refine Zd3 hs (fun _ _ _ _ _ h=>h) seq _ _ _ (fun e=>?_) (by rw[hlen];exact hB) (Zej _) (.inl hS) h;subst e;left;simpa using hl
theorem Zbx {Q:Exit->Act->World->Prop} {a:Act} {w:World} (h:Q .normal a w):NP Q .normal a w:=h
theorem Zij {a:Act} {w:World} {ops:Array Oper} (h:Q .normal a w):Zck P ops (NP Q) S last [] a w:=h
theorem Zzl {o:Oper} {r:List (Option Oper×Bool)} {a:Act} {w:World} {v:Value} (hg:o.guard=none) (hv:∀ w,S w->(execOp a.eval o).run P w=.ok (.value v) w)
 (h:Zck P ops Q S last r (a.put o.dst v) w):Zck P ops Q S last ((some o,false)::r) a w :=
 ⟨v,.inl ⟨by simp[Region.wanted,hg],hv⟩,h⟩
theorem Zap {o:Oper} {r:List (Option Oper×Bool)} {a:Act} {w:World} (hg:o.guard=none)
 (h:∃ v,(∀ w,S w->(execOp a.eval o).run P w=.ok (.value v) w)/\Zck P ops Q S last r (a.put o.dst v) w):Zck P ops Q S last ((some o,false)::r) a w:=by
 obtain⟨v,h1,h2⟩:=h;exact Zzl hg h1 h2
theorem Zmf {o:Oper} {r:List (Option Oper×Bool)} {a:Act} {w:World} (b:Bool) (hb:Region.wanted o (yielded ops a.tmps)=b)
 (h:∃ v,(b=true->∀ w,S w->(execOp a.eval o).run P w=.ok (.value v) w)/\Zck P ops Q S last r (a.put o.dst (if b then v else undef)) w):Zck P ops Q S last ((some o,false)::r) a w:=by
 obtain⟨v,h1,h2⟩:=h;cases b with
 | true=>exact⟨v,.inl ⟨hb,h1 rfl⟩,h2⟩
 | false=>exact⟨undef,.inr ⟨hb,rfl⟩,h2⟩
theorem Zpx {o:Oper} {r:List (Option Oper×Bool)} {a:Act} {w w':World} {v:Value} (hg:o.guard=none)
 (he:(execOp a.eval o).run P w=.ok (.value v) w') (hS:S w') (h:Zck P ops Q S last r (a.put o.dst v) w'):Zck P ops Q S last ((some o,true)::r) a w:=by
 have hw:Region.wanted o (yielded ops a.tmps)=true:=by simp[Region.wanted,hg]
 unfold Zck;simp only[hw,if_true,Oper.wp,he,Oper.upon];exact⟨.inr hS,h⟩
theorem Zrd {o:Oper} {a:Act} {w w':World} {s x:Operand} {t u:TypeId} {v y v':Value} (ho:o.op=.call { callee:=.builtin .append,args:=#[s,x],argTypes:=#[t,u] })
 (hs:a.eval s=v) (hx:a.eval x=y) (hr:(Builtin.append_ #[t,u] o.type #[v,y]).run P w=.ok v' w'):(execOp a.eval o).run P w=.ok (.value v') w':=by
 unfold execOp;simp only[ho,resolve,invoke,builtin,Sem.run_bind,Sem.run_pure,Result.andThen_ok,List.map_toArray,List.map_cons,List.map_nil,hs,hx,hr]
theorem Znm {o:Oper} {r:List (Option Oper×Bool)} {a:Act} {w:World} (hg:o.guard=none)
 (h:∀ K:Act->World->Prop,(∀ a' w',S w'->Zck P ops Q S last r a' w'->K a' w')->o.wp P a w K Q):Zck P ops Q S last ((some o,true)::r) a w:=by
 have hw:Region.wanted o (yielded ops a.tmps)=true:=by simp[Region.wanted,hg]
 unfold Zck;simp only[hw,if_true];exact h _ fun a' w' h1 h2=>⟨.inr h1,h2⟩
theorem Zel {o:Oper} {a:Act} {w:World} (hg:o.guard=none)
 (h:∀ K:Act->World->Prop,(∀ a' w',Q .normal a' w'->K a' w')->o.wp P a w K Q):Zck P ops Q S true [(some o,true)] a w:=by
 have hw:Region.wanted o (yielded ops a.tmps)=true:=by simp[Region.wanted,hg]
 unfold Zck;simp only[hw,if_true];exact h _ fun a' w' h1=>⟨.inl rfl,h1⟩
end
open Go.RowKit
structure RN where
 id:Nat
 v:Nat
 lo:Nat
 hi:Nat
 refs:Nat
def rn0:RN:=⟨0,0,0,0,0⟩
def nat64 (n:Nat):Value:=.int .i64 n
def rnV (n:RN):List Value:=[.int .i64 n.id,.int .i64 n.v,.int .i64 n.lo,.int .i64 n.hi,.int .i64 n.refs]
theorem Zgu (n:RN):(rnV n).length=5:=rfl
def Zau (n:RN):Value:=.agg #[.int .i64 n.id,.int .i64 n.v,.int .i64 n.lo,.int .i64 n.hi,.int .i64 n.refs]
structure Zak where
 room:Nat
 at_:List RN
 taken:List Bool
 free:List Nat
 many:Nat
def Zak.tk (p:Zak) (i:Nat):Bool:=p.taken.getD i false
def Zak.nd (p:Zak) (i:Nat):RN:=p.at_.getD i rn0
def Zak.get (p:Zak) (i:Nat):Option RN:=if p.tk i=true then some (p.nd i) else none
structure Zao (o:Own) (w:World) (pb:Nat) (p:Zak):Prop where
 own:o pb=some .pool
 blk:∃ vs vt vf,w.heap[pb]?=some (.cells #[.int .i64 p.room,vs,vt,vf,.int .i64 p.many] 190 (0,0)) /\
  RowR o w .slots 65 5 vs p.at_.length (p.at_.flatMap rnV)/\RowR o w .taken 4 1 vt p.taken.length (p.taken.map Value.bool) /\
  RowR o w .free 3 1 vf p.free.length (p.free.map nat64)
 len:p.taken.length=p.at_.length
 room:p.room<=1048576
 top:p.at_.length<=p.room+1
 zero:p.tk 0=false
 pos:0<p.at_.length
 id:∀ i,p.tk i=true->(p.nd i).id=i
 many:p.many+p.free.length+1=p.at_.length
 nodup:p.free.Nodup
 free:∀ i,i∈p.free->0<i/\i<p.at_.length/\p.tk i=false
 cnt:(p.many:Int)=Zar p.at_.length (fun i=>if p.tk i=true then 1 else 0)
theorem Zae {w:World} {g k:Nat} {cur:Array Value} {e:TypeId} {fr:Nat×Nat} (h:w.heap[g]?=some (.cells cur e fr)) (u:Value):(w.setCell ⟨g,k,none⟩ u).heap[g]?=some (.cells (cur.setIfInBounds k u) e fr):=by
 simp only[World.setCell,Array.getElem?_modify,if_true,h];rfl
theorem Zad {w:World} {p:Addr} {g:Nat} (h:g≠p.block) (u:Value):(w.setCell p u).heap[g]?=w.heap[g]?:=Below.heap_setCell _ _ _ _ h
theorem Zao.keep {o o':Own} {w w':World} {pb:Nat} {p:Zak} (h:Zao o w pb p) (hk:∀ g r,o g=some r->(r=.pool\/r=.slots\/r=.taken\/r=.free)->w'.heap[g]?=w.heap[g]?) (ho:∀ g r,o g=some r->o' g=some r):Zao o' w' pb p:=by
 obtain⟨vs,vt,vf,h1,h2,h3,h4⟩:=h.blk
 exact⟨ho _ _ h.own,⟨vs,vt,vf,(hk _ _ h.own (.inl rfl)).trans h1,h2.keep (fun g hg=>hk g _ hg (.inr (.inl rfl))) (fun g hg=>ho g _ hg),h3.keep (fun g hg=>hk g _ hg (.inr (.inr (.inl rfl)))) (fun g hg=>ho g _ hg),
  h4.keep (fun g hg=>hk g _ hg (.inr (.inr (.inr rfl)))) (fun g hg=>ho g _ hg)⟩,h.len,h.room,h.top,h.zero,h.pos,h.id,h.many,h.nodup,h.free,h.cnt⟩
theorem RowR.drew {o:Own} {w:World} {r:Role} {e:TypeId} {size:Nat} {v:Value} {n:Nat} {xs:List Value} (h:RowR o w r e size v n xs):RowR o w.drew r e size v n xs:=⟨h.len,h.ex⟩
theorem Chg.drew {R:Role->Prop} {o o':Own} {w w':World} (h:Chg R o o' w w'):Chg R o o' w w'.drew:=⟨h.os,h.tape,h.output,h.size,h.block,h.ext,h.new⟩
theorem Zao.drew {o:Own} {w:World} {pb:Nat} {p:Zak} (h:Zao o w pb p):Zao o w.drew pb p:=h.keep (fun _ _ _ _=>rfl) (fun _ _ h=>h)
theorem Zao.chg {R:Role->Prop} {o o':Own} {w w':World} {pb:Nat} {p:Zak} (h:Zao o w pb p) (hc:Chg R o o' w w') (hlt:Zai o w) (h1:¬ R .pool) (h2:¬ R .slots) (h3:¬ R .taken) (h4:¬ R .free):Zao o' w' pb p :=
 h.keep (fun g r hg hr=>hc.same hlt hg (by rcases hr with rfl|rfl|rfl|rfl<;>assumption)) hc.ext
theorem Zao.below {o:Own} {w w':World} {pb:Nat} {p:Zak} (h:Zao o w pb p) (hb:Below w.heap.size w w') (hlt:Zai o w):Zao o w' pb p :=
 h.keep (fun g r hg _=>hb.block g (hlt g r hg)) (fun _ _ h=>h)
theorem Zao.cells {o:Own} {w:World} {pb:Nat} {p:Zak} (h:Zao o w pb p):∃ vs vt vf,w.cell? ⟨pb,0,none⟩=some (.int .i64 p.room)/\w.cell? ⟨pb,1,none⟩=some vs/\w.cell? ⟨pb,2,none⟩=some vt/\w.cell? ⟨pb,3,none⟩=some vf /\
 w.cell? ⟨pb,4,none⟩=some (.int .i64 p.many)/\RowR o w .slots 65 5 vs p.at_.length (p.at_.flatMap rnV)/\RowR o w .taken 4 1 vt p.taken.length (p.taken.map Value.bool) /\
 RowR o w .free 3 1 vf p.free.length (p.free.map nat64):=by
 obtain⟨vs,vt,vf,h1,h2,h3,h4⟩:=h.blk;exact⟨vs,vt,vf,by rw[cell_of_row w pb 0 _ _ _ h1];rfl,by rw[cell_of_row w pb 1 _ _ _ h1];rfl,by rw[cell_of_row w pb 2 _ _ _ h1];rfl,by rw[cell_of_row w pb 3 _ _ _ h1];rfl,by rw[cell_of_row w pb 4 _ _ _ h1];rfl,h2,h3,h4⟩
theorem Zao.frozen {o:Own} {w:World} {pb:Nat} {p:Zak} (h:Zao o w pb p) (k:Nat):w.frozen? ⟨pb,k,none⟩=false:=by
 obtain⟨vs,vt,vf,h1,_⟩:=h.blk;simp[World.frozen?,h1]
theorem Zao.tk_lt {o:Own} {w:World} {pb:Nat} {p:Zak} (h:Zao o w pb p) {i:Nat} (hi:p.tk i=true):0<i/\i<p.at_.length:=by
 constructor
 ·
  rcases Nat.eq_zero_or_pos i with rfl|h0
  ·
   rw[h.zero] at hi;cases hi
  ·
   exact h0
 ·
  rcases Nat.lt_or_ge i p.at_.length with h'|h'
  ·
   exact h'
  ·
   rw[<- h.len] at h';simp[Zak.tk,List.getD,List.getElem?_eq_none h'] at hi
theorem Zao.flag {o:Own} {w:World} {g cap m:Nat} {p:Zak} (h:RowR o w .taken 4 1 (.slice (some ⟨g,0,none⟩) m cap) p.taken.length (p.taken.map Value.bool)) {k:Nat} (hk:k<p.taken.length):w.cell? ⟨g,k,none⟩=some (.bool (p.tk k)):=by
 rw[h.cell k (by simpa using hk)];simp[Zak.tk,List.getD,hk]
theorem Zao.node {o:Own} {w:World} {g cap m:Nat} {p:Zak} (h:RowR o w .slots 65 5 (.slice (some ⟨g,0,none⟩) m cap) p.at_.length (p.at_.flatMap rnV)) {k:Nat} (hk:k<p.at_.length) :
 w.cell? ⟨g,k*5,none⟩=some (.int .i64 (p.nd k).id)/\w.cell? ⟨g,k*5+1,none⟩=some (.int .i64 (p.nd k).v)/\w.cell? ⟨g,k*5+2,none⟩=some (.int .i64 (p.nd k).lo) /\
 w.cell? ⟨g,k*5+3,none⟩=some (.int .i64 (p.nd k).hi)/\w.cell? ⟨g,k*5+4,none⟩=some (.int .i64 (p.nd k).refs):=by
 have hx:p.at_[k]?=some (p.nd k):=by simp[Zak.nd,List.getD,hk]
 have hl:(p.at_.flatMap rnV).length=p.at_.length*5:=Za6 rnV 5 Zgu _;have e:=fun j (hj:j<5)=>(h.cell (k*5+j) (by rw[hl];omega)).trans (Zfe rnV 5 Zgu p.at_ k j _ hx hj)
 exact⟨e 0 (by omega),e 1 (by omega),e 2 (by omega),e 3 (by omega),e 4 (by omega)⟩
theorem Zrr (o:Own) (pb:Nat) (p:Zak) (w:World) (h:Zao o w pb p) :
 Calls Tryz.prog 109 #[.pointer (some ⟨pb,0,none⟩)] w fun x w'=>x=.returned (.int .i64 p.many)/\w=w':=by
 obtain⟨vs,vt,vf,c0,c1,c2,c3,c4,_⟩:=h.cells
 go_enter Tryz.func109,Tryz.ntmps109
 go_wp2
 go_ret;exact⟨rfl,rfl⟩
theorem Zp5 (o:Own) (pb:Nat) (p:Zak) (w:World) (h:Zao o w pb p) :
 Calls Tryz.prog 172 #[.pointer (some ⟨pb,0,none⟩)] w fun x w'=>x=.returned (.int .i64 p.room)/\w=w':=by
 obtain⟨vs,vt,vf,c0,c1,c2,c3,c4,_⟩:=h.cells
 go_enter Tryz.func172,Tryz.ntmps172
 go_wp2
 go_ret;exact⟨rfl,rfl⟩
theorem Zgr (o:Own) (pb:Nat) (p:Zak) (i:Nat) (w:World) (h:Zao o w pb p) :
 Calls Tryz.prog 144 #[.pointer (some ⟨pb,0,none⟩),.int .i64 i] w fun x w'=>x=.returned (.bool (p.tk i))/\w=w':=by
 obtain⟨vs,vt,vf,c0,c1,c2,c3,c4,hs,ht,_⟩:=h.cells;have hpos:=h.pos;obtain⟨gs,cs,rfl,_⟩:=hs.shape hpos;obtain⟨gt,ct,rfl,_⟩:=ht.shape (by rw[h.len];exact hpos);have htop:=h.top;have hroom:=h.room;have hlen:=h.len;rw[hlen] at c2
 by_cases h0:0<i
 ·
  have h0':(0:Int)<i:=by omega
  by_cases h1:i<p.at_.length
  ·
   have h1':(i:Int)<p.at_.length:=by omega
   have c5:=Zao.flag ht (k:=i) (by omega);obtain⟨b,hb⟩:∃ b,p.tk i=b:=⟨_,rfl⟩;rw[hb] at c5;rw[hb];clear hlen hb ht hs
   go_enter Tryz.func144,Tryz.ntmps144
   go_wp2
   go_ret;exact⟨rfl,rfl⟩
  ·
   have h1':¬ (i:Int)<p.at_.length:=by omega
   have HX:Hid (p.tk i=false):=by
    show _=_
    cases e:p.tk i with
    | false=>rfl
    | true=>exact absurd (h.tk_lt e).2 h1
   clear hlen ht hs
   go_enter Tryz.func144,Tryz.ntmps144
   go_wp2
   go_ret;exact⟨Zde HX.out.symm,rfl⟩
 ·
  obtain rfl:i=0:=by omega
  have HX:=Hd h.zero;clear hlen ht hs
  go_enter Tryz.func144,Tryz.ntmps144
  go_wp2
  go_ret;exact⟨Zde HX.out.symm,rfl⟩
theorem Znb {α:Type} (f:α->List Value) (s:Nat) (hf:∀ x,(f x).length=s):∀ (l:List α) (k:Nat) (y:α),k<l.length->(l.set k y).flatMap f=(l.flatMap f).take (k*s)++f y++(l.flatMap f).drop (k*s+s)
 | [],k,y,h=>by simp at h
 | x::l,0,y,_=>by
   simp only[List.set_cons_zero,List.flatMap_cons,Nat.zero_mul,List.take_zero,List.nil_append,Nat.zero_add];rw[List.drop_append,List.drop_of_length_le (l:=f x) (by simp[hf]),hf];simp
 | x::l,k+1,y,h=>by
   simp only[List.set_cons_succ,List.flatMap_cons];rw[Znb f s hf l k y (by simpa using h),show (k+1)*s=s+k*s by rw[Nat.add_mul];omega];rw[List.take_append,hf,List.take_of_length_le (l:=f x) (by rw[hf];omega),show s+k*s-s=k*s by omega];rw[List.drop_append,hf,List.drop_of_length_le (l:=f x) (by rw[hf];omega),show s+k*s+s-s=k*s+s by omega];simp[List.append_assoc]
theorem Zz4 (xs:List Value) (k:Nat) (a b c d e:Value) (h:k+5<=xs.length):((((xs.set k a).set (k+1) b).set (k+2) c).set (k+3) d).set (k+4) e=xs.take k++[a,b,c,d,e]++xs.drop (k+5):=by
 apply List.ext_getElem?;intro i;simp only[List.getElem?_set,List.length_set]
 by_cases h0:i<k
 ·
  rw[List.getElem?_append_left (by simp;omega),List.getElem?_append_left (by simp;omega),List.getElem?_take,if_pos h0];rw[if_neg (by omega),if_neg (by omega),if_neg (by omega),if_neg (by omega),if_neg (by omega)]
 ·
  by_cases h1:i<k+5
  ·
   rw[List.getElem?_append_left (by simp;omega),List.getElem?_append_right (by simp;omega)];have hl:(xs.take k).length=k:=by simp;omega
   rw[hl];have:i=k\/i=k+1\/i=k+2\/i=k+3\/i=k+4:=by omega
   rcases this with rfl|rfl|rfl|rfl|rfl
   ·
    simp;omega
   ·
    simp;omega
   ·
    simp;omega
   ·
    simp;omega
   ·
    simp;omega
  ·
   rw[if_neg (by omega),if_neg (by omega),if_neg (by omega),if_neg (by omega),if_neg (by omega)];rw[List.getElem?_append_right (by simp;omega)];simp only[List.length_append,List.length_take,List.length_cons,List.length_nil,List.getElem?_drop];congr 1;omega
def set5 (w:World) (g k:Nat) (n:RN):World :=
 ((((w.setCell ⟨g,k*5,none⟩ (.int .i64 n.id)).setCell ⟨g,k*5+1,none⟩ (.int .i64 n.v)).setCell ⟨g,k*5+2,none⟩ (.int .i64 n.lo)).setCell ⟨g,k*5+3,none⟩ (.int .i64 n.hi)).setCell ⟨g,k*5+4,none⟩ (.int .i64 n.refs)
theorem Zh5 {o:Own} {w:World} {g cap m:Nat} {l:List RN} {k:Nat} (h:RowR o w .slots 65 5 (.slice (some ⟨g,0,none⟩) m cap) l.length (l.flatMap rnV)) (hk:k<l.length) (n:RN) :
 RowR o (set5 w g k n) .slots 65 5 (.slice (some ⟨g,0,none⟩) m cap) (l.set k n).length ((l.set k n).flatMap rnV):=by
 have h5:=((((h.stored (k*5) (.int .i64 n.id)).stored (k*5+1) (.int .i64 n.v)).stored (k*5+2) (.int .i64 n.lo)).stored (k*5+3) (.int .i64 n.hi)).stored (k*5+4) (.int .i64 n.refs);rw[List.length_set];have hl:(l.flatMap rnV).length=l.length*5:=Za6 rnV 5 Zgu _;rw[Zz4 _ _ _ _ _ _ _ (by rw[hl];omega)] at h5;rw[Znb rnV 5 Zgu l k n hk];exact h5
theorem Zjs {R:Role->Prop} {o o':Own} {w0 w:World} {g k:Nat} {n:RN} (h:Chg R o o' w0 w) (hg:o' g=some .slots) (hR:R .slots):Chg R o o' w0 (set5 w g k n) :=
 ((((h.setCell (p:=⟨g,k*5,none⟩) hg hR _).setCell (p:=⟨g,k*5+1,none⟩) hg hR _).setCell (p:=⟨g,k*5+2,none⟩) hg hR _).setCell (p:=⟨g,k*5+3,none⟩) hg hR _).setCell (p:=⟨g,k*5+4,none⟩) hg hR _
theorem Zbe {w:World} {g k:Nat} {n:RN} {b:Nat} (hb:b≠g):(set5 w g k n).heap[b]?=w.heap[b]?:=by
 unfold set5;rw[Zad hb,Zad hb,Zad hb,Zad hb,Zad hb]
theorem Zhy {p:Zak} {k:Nat} {n:RN} (hk:k<p.at_.length) (i:Nat):({ p with at_:=p.at_.set k n }:Zak).nd i=if i=k then n else p.nd i:=by
 unfold Zak.nd;dsimp only
 by_cases e:i=k
 ·
  subst e;simp[List.getD,hk]
 ·
  simp only[List.getD,List.getElem?_set,if_neg (Ne.symm e),if_neg e]
def Zak.setNd (p:Zak) (k:Nat) (n:RN):Zak:={ p with at_:=p.at_.set k n }
theorem Zak.setNd_get {p:Zak} {k:Nat} {n:RN} (hk:k<p.at_.length) (ht:p.tk k=true) (i:Nat):(p.setNd k n).get i=if i=k then some n else p.get i:=by
 unfold Zak.get;have:(p.setNd k n).tk i=p.tk i:=rfl;rw[this,show (p.setNd k n).nd i=if i=k then n else p.nd i from Zhy hk i]
 by_cases e:i=k
 ·
  subst e;simp[ht]
 ·
  simp[e]
theorem Zao.setNd {o:Own} {w:World} {pb g cap m:Nat} {p:Zak} (h:Zao o w pb p) (hlt:Zai o w) {vs:Value} (hc:w.cell? ⟨pb,1,none⟩=some vs) (hv:vs=.slice (some ⟨g,0,none⟩) m cap) {k:Nat} {n:RN} (hk:p.tk k=true) (hn:n.id=k) :
 Zao o (set5 w g k n) pb (p.setNd k n):=by
 subst hv;obtain⟨vs,vt,vf,h1,h2,h3,h4⟩:=h.blk;have e1:vs=.slice (some ⟨g,0,none⟩) m cap:=by
  rw[cell_of_row w pb 1 _ _ _ h1] at hc;simpa using hc
 subst e1;have hg:=h2.owner;obtain⟨_,hkl⟩:=h.tk_lt hk;have hne:∀ {b r},o b=some r->r ≠ .slots->b≠g:=fun hb hr e=>by subst e;rw[hg] at hb;cases hb;exact hr rfl
 refine⟨h.own,⟨_,vt,vf,(Zbe (hne h.own (by simp))).trans h1,Zh5 h2 hkl n,h3.keep (fun b hb=>Zbe (hne hb (by simp))) (fun _ h=>h),h4.keep (fun b hb=>Zbe (hne hb (by simp))) (fun _ h=>h)⟩,?_,h.room,?_,h.zero,?_,?_,?_,h.nodup,?_,?_⟩
 ·
  simp only[Zak.setNd,List.length_set];exact h.len
 ·
  simp only[Zak.setNd,List.length_set];exact h.top
 ·
  simp only[Zak.setNd,List.length_set];exact h.pos
 ·
  intro i hi;rw[show (p.setNd k n).nd i=if i=k then n else p.nd i from Zhy hkl i];split
  ·
   rename_i e;rw[e];exact hn
  ·
   exact h.id i hi
 ·
  simp only[Zak.setNd,List.length_set];exact h.many
 ·
  simp only[Zak.setNd,List.length_set];exact h.free
 ·
  simp only[Zak.setNd,List.length_set];exact h.cnt
theorem Zmk (o:Own) (pb:Nat) (p:Zak) (i:Nat) (w:World) (h:Zao o w pb p) (hlt:Zai o w) (hi:p.tk i=true) :
 Calls Tryz.prog 119 #[.pointer (some ⟨pb,0,none⟩),.int .i64 i] w fun x w'=>x=.returned (.tuple #[Zau (p.nd i),.bool true])/\Below w.heap.size w w':=by
 obtain⟨vs,vt,vf,c0,c1,c2,c3,c4,hs,ht,_⟩:=h.cells;have hpos:=h.pos;obtain⟨gs,cs,rfl,_⟩:=hs.shape hpos;have htop:=h.top;have hroom:=h.room;obtain⟨h0,h1⟩:=h.tk_lt hi;have h1':(i:Int)<p.at_.length:=by omega
 obtain⟨d0,d1,d2,d3,d4⟩:=Zao.node hs (k:=i) h1;obtain⟨n,hn⟩:∃ n,p.nd i=n:=⟨_,rfl⟩;rw[hn] at d0 d1 d2 d3 d4;rw[hn];have HH:=Hd (h.below (Zaf w (.cells #[.int .i64 0,.int .i64 0,.int .i64 0,.int .i64 0,.int .i64 0] 65)) hlt);have HI:=Hd hi;have l0:pb<w.heap.size:=Zab c1;have l1:gs<w.heap.size:=Zab d0;clear hn hs ht h hi hlt
 go_enter Tryz.func119,Tryz.ntmps119
 go_wp2_with fail;refine(Zgr o pb p i _ HH.out).mono ?_;rintro x w' ⟨rfl,rfl⟩;rw[HI.out];go_wp2_with fail;exact bodyPost_ret (v:=.tuple #[Zau n,.bool true]) (by simp[results,Tryz.results119,go_sem,Zau]) rfl ⟨rfl,Zaf w _⟩
theorem Zxt (o:Own) (pb:Nat) (p:Zak) (i:Nat) (w:World) (h:Zao o w pb p) (hlt:Zai o w) (hi:p.tk i=false) :
 Calls Tryz.prog 119 #[.pointer (some ⟨pb,0,none⟩),.int .i64 i] w fun x w'=>x=.returned (.tuple #[Zau rn0,.bool false])/\Below w.heap.size w w':=by
 have HH:=Hd (h.below (Zaf w (.cells #[.int .i64 0,.int .i64 0,.int .i64 0,.int .i64 0,.int .i64 0] 65)) hlt);have HI:=Hd hi;clear h hi hlt
 go_enter Tryz.func119,Tryz.ntmps119
 go_wp2_with fail;refine(Zgr o pb p i _ HH.out).mono ?_;rintro x w' ⟨rfl,rfl⟩;rw[HI.out];go_wp2_with fail;exact bodyPost_ret (v:=.tuple #[Zau rn0,.bool false]) (by simp[results,Tryz.results119,go_sem,Zau,rn0]) rfl ⟨rfl,Zaf w _⟩
theorem Zhd (o:Own) (pb:Nat) (p:Zak) (n:RN) (w:World) (h:Zao o w pb p) (hlt:Zai o w) (hi:p.tk n.id=true) :
 Calls Tryz.prog 120 #[.pointer (some ⟨pb,0,none⟩),Zau n] w fun x w'=>x=.returned (.int .i64 0)/\Zao o w' pb (p.setNd n.id n)/\Chg (· = .slots) o o w w'/\Zai o w':=by
 obtain⟨vs,vt,vf,c0,c1,c2,c3,c4,hs,ht,_⟩:=h.cells;have hpos:=h.pos;obtain⟨gs,cs,rfl,hog,_⟩:=hs.shape hpos;have htop:=h.top;have hroom:=h.room;obtain⟨h0,h1⟩:=h.tk_lt hi;have h1':(n.id:Int)<p.at_.length:=by omega
 obtain⟨W,hW⟩:∃ W,W=w.alloc (.cells #[.int .i64 n.id,.int .i64 n.v,.int .i64 n.lo,.int .i64 n.hi,.int .i64 n.refs] 65):=⟨_,rfl⟩;have hbW:Below w.heap.size w W:=by rw[hW];exact Zaf w _
 have hPW:=h.below hbW hlt;have hltW:Zai o W:=hlt.mono hbW.size;obtain⟨b,hb⟩:∃ b,b=w.heap.size:=⟨_,rfl⟩;have b0:W.cell? ⟨b,0,none⟩=some (.int .i64 n.id):=by rw[hW,hb];simp
 have b1:W.cell? ⟨b,1,none⟩=some (.int .i64 n.v):=by rw[hW,hb];simp
 have b2:W.cell? ⟨b,2,none⟩=some (.int .i64 n.lo):=by rw[hW,hb];simp
 have b3:W.cell? ⟨b,3,none⟩=some (.int .i64 n.hi):=by rw[hW,hb];simp
 have b4:W.cell? ⟨b,4,none⟩=some (.int .i64 n.refs):=by rw[hW,hb];simp
 have e1:W.cell? ⟨pb,1,none⟩=some (.slice (some ⟨gs,0,none⟩) p.at_.length cs):=(hbW.cell (p:=⟨pb,1,none⟩) (Zab c1)).trans c1;have hd:=Zao.node (hs.keep (fun g hg=>hbW.block g (hlt g _ hg)) (fun _ h=>h)) (k:=n.id) h1;obtain⟨d0,d1,d2,d3,d4⟩:=hd;have f0:∀ k,W.frozen? ⟨gs,k,none⟩=false:=(hs.keep (fun g hg=>hbW.block g (hlt g _ hg)) (fun _ h=>h)).frozen;have HC:Hid (Chg (· = .slots) o o w W):=by show Chg _ _ _ _ _;rw[hW];exact(Chg.refl _ _ _).alloc _
 have HP:=Hd hPW;have HL:=Hd hltW;have HI:=Hd hi;have HO:=Hd hog;have HE:=Hd e1;have HW:=Hd hW;have HB:=Hd hb;clear hs ht h hi hlt hog c0 c1 c2 c3 c4 hbW hPW hltW hW hb;unfold Zau
 go_enter Tryz.func120,Tryz.ntmps120
 go_wp2_with (fail);rw[<- HW.out,<- HB.out];go_wp2_with (fail);refine(Zgr o pb p n.id _ HP.out).mono ?_;rintro x w' ⟨rfl,rfl⟩;rw[HI.out];go_wp2_with fail;refine Zan (fun w'=>w'=W.drew) true 8 [(0,false),(1,false),(2,false),(3,false),(4,false),(5,false),(6,false),(7,false),(8,true)] (by kernel_rfl) (by kernel_rfl) rfl ?_;simp only[planned,Zd8]
 iterate 8
  refine Zap rfl ?_;apply Exists.intro;refine⟨fun w' hw=>?_,?_⟩
  ·
   subst hw;go_simp;rfl
  simp only[Zag]
 refine Zel rfl (fun K hK=>?_);unfold Oper.wp;go_simp;refine hK _ _ (Zbx ?_);go_wp2_with fail;go_ret;exact⟨rfl,(HP.out.setNd HL.out HE.out rfl HI.out rfl).drew,(Zjs HC.out HO.out rfl).drew,HL.out.mono (by simp[set5,World.setCell])⟩
def Zak.reuse (p:Zak) (id:Nat) (n:RN):Zak:={ p with at_:=p.at_.set id { n with id:=id },taken:=p.taken.set id true,free:=p.free.dropLast,many:=p.many+1 }
def Zak.fresh (p:Zak) (n:RN):Zak:={ p with at_:=p.at_++[{ n with id:=p.at_.length }],taken:=p.taken++[true],many:=p.many+1 }
theorem Zla {l:List Bool} {k:Nat} {b:Bool} (hk:k<l.length) (i:Nat):(l.set k b).getD i false=if i=k then b else l.getD i false:=by
 by_cases e:i=k
 ·
  subst e;simp[List.getD,hk]
 ·
  simp only[List.getD,List.getElem?_set,if_neg (Ne.symm e),if_neg e]
theorem Zak.reuse_get {p:Zak} {id:Nat} {n:RN} (h1:id<p.at_.length) (h2:id<p.taken.length) (i:Nat):(p.reuse id n).get i=if i=id then some { n with id:=id } else p.get i:=by
 unfold Zak.get;have e1:(p.reuse id n).tk i=if i=id then true else p.tk i:=Zla h2 i
 have e2:(p.reuse id n).nd i=if i=id then { n with id:=id } else p.nd i:=Zhy h1 i
 rw[e1,e2]
 by_cases e:i=id<;>simp[e]
theorem Zak.fresh_get {p:Zak} {n:RN} (hl:p.taken.length=p.at_.length) (i:Nat):(p.fresh n).get i=if i=p.at_.length then some { n with id:=p.at_.length } else p.get i:=by
 unfold Zak.get Zak.tk Zak.nd Zak.fresh;dsimp only;rcases Nat.lt_trichotomy i p.at_.length with h|h|h
 ·
  have hne:i≠p.at_.length:=by omega
  simp[List.getD,List.getElem?_append_left,h,hl,hne]
 ·
  subst h;simp[List.getD,List.getElem?_append_right,hl]
 ·
  have hne:i≠p.at_.length:=by omega
  have h1:p.at_.length<=i:=by omega
  have h2:p.taken.length<=i:=by omega
  have h3:i-p.at_.length≠0:=by omega
  simp[List.getD,List.getElem?_append_right,h1,hl,hne,List.getElem?_eq_none,h3]
theorem Zao.freeCell {o:Own} {w:World} {g cap m:Nat} {p:Zak} (h:RowR o w .free 3 1 (.slice (some ⟨g,0,none⟩) m cap) p.free.length (p.free.map nat64)) {k:Nat} {x:Nat} (hk:p.free[k]?=some x):w.cell? ⟨g,k,none⟩=some (.int .i64 x):=by
 have hl:k<p.free.length:=by
  rcases Nat.lt_or_ge k p.free.length with h'|h'
  ·
   exact h'
  ·
   rw[List.getElem?_eq_none h'] at hk;cases hk
 rw[h.cell k (by simpa using hl),List.getElem?_map,hk];rfl
theorem Zdp {fs:List Nat} {id:Nat}:(fs++[id]).dropLast=fs:=by simp
theorem Zak.reuse_tk {p:Zak} {id:Nat} {n:RN} (h:id<p.taken.length) (i:Nat):(p.reuse id n).tk i=if i=id then true else p.tk i:=Zla h i
theorem Zao.toReuse {o:Own} {w W:World} {pb gs gt gf cs ct cf:Nat} {p:Zak} (h:Zao o w pb p) (hlt:Zai o w) {fs:List Nat} {id:Nat} {n:RN} (hf:p.free=fs++[id])
 (c1:w.cell? ⟨pb,1,none⟩=some (.slice (some ⟨gs,0,none⟩) p.at_.length cs)) (c2:w.cell? ⟨pb,2,none⟩=some (.slice (some ⟨gt,0,none⟩) p.at_.length ct)) (c3:w.cell? ⟨pb,3,none⟩=some (.slice (some ⟨gf,0,none⟩) (fs.length+1) cf))
 (hcf:fs.length+1<=cf) (hW:Below w.heap.size (w.setCell ⟨pb,3,none⟩ (.slice (some ⟨gf,0,none⟩) fs.length fs.length)) W) :
 Zao o (((set5 W gs id { n with id:=id }).setCell ⟨gt,id,none⟩ (.bool true)).setCell ⟨pb,4,none⟩ (.int .i64 ((p.many+1:Nat):Int))) pb (p.reuse id n) /\
 Chg (fun r=>r=.pool\/r=.slots\/r=.taken\/r=.free) o o w (((set5 W gs id { n with id:=id }).setCell ⟨gt,id,none⟩ (.bool true)).setCell ⟨pb,4,none⟩ (.int .i64 ((p.many+1:Nat):Int))):=by
 obtain⟨vs,vt,vf,h1,h2,h3,h4⟩:=h.blk;have e1:vs=.slice (some ⟨gs,0,none⟩) p.at_.length cs:=by rw[cell_of_row w pb 1 _ _ _ h1] at c1;simpa using c1
 have e2:vt=.slice (some ⟨gt,0,none⟩) p.at_.length ct:=by rw[cell_of_row w pb 2 _ _ _ h1] at c2;simpa using c2
 have e3:vf=.slice (some ⟨gf,0,none⟩) (fs.length+1) cf:=by rw[cell_of_row w pb 3 _ _ _ h1] at c3;simpa using c3
 subst e1 e2 e3;have os:=h2.owner;have ot:=h3.owner;have of:=h4.owner;have ne:∀ {a b r q},o a=some r->o b=some q->r≠q->a≠b:=fun ha hb hr e=>by subst e;rw[ha] at hb;cases hb;exact hr rfl
 obtain⟨i0,i1,i2⟩:=h.free id (by rw[hf];simp);have old:∀ g r,o g=some r->g≠pb->W.heap[g]?=w.heap[g]?:=fun g r hg hne=>(hW.block g (hlt g r hg)).trans (Zad hne _)
 have hpb:W.heap[pb]?=some (.cells #[.int .i64 p.room,.slice (some ⟨gs,0,none⟩) p.at_.length cs,.slice (some ⟨gt,0,none⟩) p.at_.length ct,.slice (some ⟨gf,0,none⟩) fs.length fs.length,.int .i64 p.many] 190 (0,0)) :=
  (hW.block pb (hlt pb _ h.own)).trans (Zae h1 _)
 have hs2:RowR o W .slots 65 5 (.slice (some ⟨gs,0,none⟩) p.at_.length cs) p.at_.length (p.at_.flatMap rnV):=h2.keep (fun g hg=>old g _ hg (ne hg h.own (by simp))) (fun _ h=>h);have ht2:RowR o W .taken 4 1 (.slice (some ⟨gt,0,none⟩) p.at_.length ct) p.taken.length (p.taken.map Value.bool):=h3.keep (fun g hg=>old g _ hg (ne hg h.own (by simp))) (fun _ h=>h);have hf2:RowR o W .free 3 1 (.slice (some ⟨gf,0,none⟩) fs.length fs.length) fs.length (fs.map nat64):=by
  have:=(h4.keep (w':=W) (o':=o) (fun g hg=>old g _ hg (ne hg h.own (by simp))) (fun _ h=>h)).shrink (m':=fs.length) (cap':=fs.length) (by rw[hf];simp) (by omega) (Nat.le_refl _);rw[hf,List.map_append,Nat.mul_one,List.take_left' (by simp)] at this;exact this
 refine⟨⟨h.own,⟨.slice (some ⟨gs,0,none⟩) p.at_.length cs,.slice (some ⟨gt,0,none⟩) p.at_.length ct,.slice (some ⟨gf,0,none⟩) fs.length fs.length,?_,?_,?_,?_⟩,?_,h.room,?_,?_,?_,?_,?_,?_,?_,?_⟩,?_⟩
 ·
  have e:((set5 W gs id { n with id:=id }).setCell ⟨gt,id,none⟩ (.bool true)).heap[pb]?=W.heap[pb]?:=(Zad (ne h.own ot (by simp)) _).trans (Zbe (ne h.own os (by simp)));exact Zae (e.trans hpb) _
 ·
  exact((Zh5 hs2 i1 _).setCell_other (p:=⟨gt,id,none⟩) (by rw[ot];simp) _).setCell_other (p:=⟨pb,4,none⟩) (by rw[h.own];simp) _
 ·
  have a1:=(ht2.keep (w':=set5 W gs id { n with id:=id }) (o':=o) (fun g hg=>Zbe (ne hg os (by simp))) (fun _ h=>h)).stored id (.bool true);have a2:=a1.setCell_other (p:=⟨pb,4,none⟩) (by rw[h.own];simp) (.int .i64 ((p.many+1:Nat):Int));simp only[Zak.reuse,List.length_set,List.map_set];exact a2
 ·
  have a1:=((hf2.keep (w':=set5 W gs id { n with id:=id }) (o':=o) (fun g hg=>Zbe (ne hg os (by simp))) (fun _ h=>h)).setCell_other (p:=⟨gt,id,none⟩) (by rw[ot];simp) (.bool true)).setCell_other (p:=⟨pb,4,none⟩) (by rw[h.own];simp) (.int .i64 ((p.many+1:Nat):Int));simp only[Zak.reuse,hf,Zdp];exact a1
 ·
  simp only[Zak.reuse,List.length_set];exact h.len
 ·
  simp only[Zak.reuse,List.length_set];exact h.top
 ·
  rw[Zak.reuse_tk (by rw[h.len];exact i1),if_neg (by omega)];exact h.zero
 ·
  simp only[Zak.reuse,List.length_set];exact h.pos
 ·
  intro i hi;rw[Zak.reuse_tk (by rw[h.len];exact i1)] at hi;rw[show (p.reuse id n).nd i=if i=id then { n with id:=id } else p.nd i from Zhy i1 i];split
  ·
   rename_i e;exact e.symm
  ·
   rename_i e;rw[if_neg e] at hi;exact h.id i hi
 ·
  have:=h.many;simp only[Zak.reuse,List.length_set,hf,Zdp] at *;simp at this;omega
 ·
  have:=h.nodup;simp only[Zak.reuse,hf,Zdp] at *;exact(List.nodup_append.1 this).1
 ·
  intro i hi;have hn:=h.nodup;simp only[Zak.reuse,hf,Zdp] at hi hn;have hne:i≠id:=by
   rintro rfl;exact(List.nodup_append.1 hn).2.2 i hi i (by simp) rfl
  have:=h.free i (by rw[hf];simp[hi]);rw[Zak.reuse_tk (by rw[h.len];exact i1),if_neg hne];simp only[Zak.reuse,List.length_set];exact this
 ·
  have hc:=h.cnt;have:Zar (p.reuse id n).at_.length (fun i=>if (p.reuse id n).tk i=true then 1 else 0)=Zar p.at_.length (fun i=>if p.tk i=true then 1 else 0)+((if (p.reuse id n).tk id=true then 1 else 0)-(if p.tk id=true then 1 else 0)):=by
   have hl:(p.reuse id n).at_.length=p.at_.length:=by simp[Zak.reuse]
   rw[hl];refine Zdg (fun i hi=>?_) _ i1;rw[Zak.reuse_tk (by rw[h.len];exact i1),if_neg hi]
  rw[this,Zak.reuse_tk (by rw[h.len];exact i1),if_pos rfl,i2,<- hc];simp[Zak.reuse]
 ·
  have c0:Chg (fun r=>r=.pool\/r=.slots\/r=.taken\/r=.free) o o w W :=
   ((Chg.refl _ o w).setCell (p:=⟨pb,3,none⟩) h.own (.inl rfl) _).trans (Chg.of_below (by simpa [World.setCell] using hW) _ _)
  exact((Zjs c0 os (.inr (.inl rfl))).setCell (p:=⟨gt,id,none⟩) ot (.inr (.inr (.inl rfl))) _).setCell (p:=⟨pb,4,none⟩) h.own (.inl rfl) _
theorem Zlj (o:Own) (pb:Nat) (p:Zak) (n:RN) (fs:List Nat) (id:Nat) (w:World) (h:Zao o w pb p) (hlt:Zai o w) (hf:p.free=fs++[id]) :
 Calls Tryz.prog 169 #[.pointer (some ⟨pb,0,none⟩),Zau n] w fun x w'=>x=.returned (.tuple #[.int .i64 id,.int .i64 0])/\Zao o w' pb (p.reuse id n)/\Chg (fun r=>r=.pool\/r=.slots\/r=.taken\/r=.free) o o w w'/\Zai o w':=by
 obtain⟨vs,vt,vf,c0,c1,c2,c3,c4,hs,ht,hff⟩:=h.cells;have hpos:=h.pos;obtain⟨gs,cs,rfl,hogs,_⟩:=hs.shape hpos;obtain⟨gt,ct,rfl,hogt,_⟩:=ht.shape (by rw[h.len];exact hpos);obtain⟨gf,cf,rfl,hogf,hcf,hcm⟩:=hff.shape (by rw[hf];simp);have htop:=h.top;have hroom:=h.room;have hmany:=h.many;have hmem:=h.free id (by rw[hf];simp);obtain⟨i0,i1,i2⟩:=hmem;have hfl:p.free.length=fs.length+1:=by rw[hf];simp
 have d:=Zao.freeCell hff (k:=fs.length) (x:=id) (by rw[hf];simp);have f3:=h.frozen 3;have f4:=h.frozen 4;have fs0:=hs.frozen;have ft0:=ht.frozen id;have n0:=Zao.node hs (k:=id) i1;obtain⟨n0,n1,n2,n3,n4⟩:=n0;have t0:=Zao.flag ht (k:=id) (by rw[h.len];exact i1);rw[hfl] at c3 hcf;rw[h.len] at c2;have lpb:pb<w.heap.size:=Zab c0;have lgs:gs<w.heap.size:=Zab n0;have lgt:gt<w.heap.size:=Zab t0;have lgf:gf<w.heap.size:=Zab d;have i1':(id:Int)<p.at_.length:=by omega
 have nes:pb≠gs:=by rintro rfl;rw[h.own] at hogs;cases hogs
 have net:pb≠gt:=by rintro rfl;rw[h.own] at hogt;cases hogt
 have nef:pb≠gf:=by rintro rfl;rw[h.own] at hogf;cases hogf
 have nst:gs≠gt:=by rintro rfl;rw[hogs] at hogt;cases hogt
 have HH:=Hd h;have HL:=Hd hlt;have HF:=Hd hf;unfold maxLen at hcm;clear h hlt hf hs ht hff hfl hmany i2 hogs hogt hogf;unfold Zau
 go_enter Tryz.func169,Tryz.ntmps169
 go_wp2_with (fail);obtain⟨W1,hW1⟩:∃ W1,W1=(w.setCell ⟨pb,3,none⟩ (.slice (some ⟨gf,0,none⟩) fs.length fs.length)).alloc (.cells #[.int .i64 id,.int .i64 n.v,.int .i64 n.lo,.int .i64 n.hi,.int .i64 n.refs] 65):=⟨_,rfl⟩;obtain⟨b,hb⟩:∃ b,b=w.heap.size:=⟨_,rfl⟩;rw[<- hW1,<- hb];have hbW:Below w.heap.size (w.setCell ⟨pb,3,none⟩ (.slice (some ⟨gf,0,none⟩) fs.length fs.length)) W1:=by rw[hW1];exact(Below.refl _ _).alloc (by simp[World.setCell]) _
 have hfin:=fun W (hW:Below w.heap.size W1 W)=>HH.out.toReuse HL.out HF.out (n:=n) (W:=W) c1 c2 c3 hcf (hbW.trans hW)
 have hB:W1.heap[b]?=some (.cells #[.int .i64 id,.int .i64 n.v,.int .i64 n.lo,.int .i64 n.hi,.int .i64 n.refs] 65 (0,0)):=by
  rw[hW1,hb];have:=heap_alloc_new (w.setCell ⟨pb,3,none⟩ (.slice (some ⟨gf,0,none⟩) fs.length fs.length)) (.cells #[.int .i64 id,.int .i64 n.v,.int .i64 n.lo,.int .i64 n.hi,.int .i64 n.refs] 65);rw[show (w.setCell ⟨pb,3,none⟩ (.slice (some ⟨gf,0,none⟩) fs.length fs.length)).heap.size=w.heap.size by simp[World.setCell]] at this;exact this
 have b0:W1.cell? ⟨b,0,none⟩=some (.int .i64 id):=by rw[cell_of_row W1 b 0 _ _ _ hB];rfl
 have b1:W1.cell? ⟨b,1,none⟩=some (.int .i64 n.v):=by rw[cell_of_row W1 b 1 _ _ _ hB];rfl
 have b2:W1.cell? ⟨b,2,none⟩=some (.int .i64 n.lo):=by rw[cell_of_row W1 b 2 _ _ _ hB];rfl
 have b3:W1.cell? ⟨b,3,none⟩=some (.int .i64 n.hi):=by rw[cell_of_row W1 b 3 _ _ _ hB];rfl
 have b4:W1.cell? ⟨b,4,none⟩=some (.int .i64 n.refs):=by rw[cell_of_row W1 b 4 _ _ _ hB];rfl
 have old:∀ g k,g<w.heap.size->(g≠pb\/k≠3)->W1.cell? ⟨g,k,none⟩=w.cell? ⟨g,k,none⟩:=by
  intro g k hg hne;refine(hbW.cell (p:=⟨g,k,none⟩) hg).trans ?_;exact World.cell?_setCell_other w _ _ _ (by intro e;cases e;simp at hne)
 have oldf:∀ g k,g<w.heap.size->g≠pb->W1.frozen? ⟨g,k,none⟩=w.frozen? ⟨g,k,none⟩:=by
  intro g k hg hne;refine(hbW.frozen (p:=⟨g,k,none⟩) hg).trans ?_;exact World.frozen?_setCell _ _ _ _
 have p1:=(old pb 1 lpb (.inr (by omega))).trans c1;have p2:=(old pb 2 lpb (.inr (by omega))).trans c2;have p4:=(old pb 4 lpb (.inr (by omega))).trans c4;have q0:=(old gs (id*5) lgs (.inl (Ne.symm nes))).trans n0;have q1:=(old gs (id*5+1) lgs (.inl (Ne.symm nes))).trans n1;have q2:=(old gs (id*5+2) lgs (.inl (Ne.symm nes))).trans n2;have q3:=(old gs (id*5+3) lgs (.inl (Ne.symm nes))).trans n3;have q4:=(old gs (id*5+4) lgs (.inl (Ne.symm nes))).trans n4;have qt:=(old gt id lgt (.inl (Ne.symm net))).trans t0;have g0:∀ k,W1.frozen? ⟨gs,k,none⟩=false:=fun k=>(oldf gs k lgs (Ne.symm nes)).trans (fs0 k)
 have g1:W1.frozen? ⟨gt,id,none⟩=false:=(oldf gt id lgt (Ne.symm net)).trans ft0;have g2:W1.frozen? ⟨pb,4,none⟩=false:=by
  refine(hbW.frozen (p:=⟨pb,4,none⟩) lpb).trans ?_;rw[World.frozen?_setCell];exact f4
 have nbs:b≠gs:=by omega
 have HS:Hid (∀ W:World,(∀ g,g≠gs->W.heap[g]?=W1.heap[g]?)->W.cell? ⟨pb,1,none⟩=some (.slice (some ⟨gs,0,none⟩) p.at_.length cs)/\W.cell? ⟨pb,2,none⟩=some (.slice (some ⟨gt,0,none⟩) p.at_.length ct) /\
  W.cell? ⟨b,0,none⟩=some (.int .i64 id)/\W.cell? ⟨b,1,none⟩=some (.int .i64 n.v)/\W.cell? ⟨b,2,none⟩=some (.int .i64 n.lo)/\W.cell? ⟨b,3,none⟩=some (.int .i64 n.hi)/\W.cell? ⟨b,4,none⟩=some (.int .i64 n.refs)):=by
  show ∀ _,_
  intro W hW;have a:=fun g k (hg:g≠gs)=>World.cell?_of_block (w:=W1) (w':=W) (a:=⟨g,k,none⟩) (hW g hg)
  exact⟨(a pb 1 nes).trans p1,(a pb 2 nes).trans p2,(a b 0 nbs).trans b0,(a b 1 nbs).trans b1,(a b 2 nbs).trans b2,(a b 3 nbs).trans b3,(a b 4 nbs).trans b4⟩
 have HFIN:=Hd hfin;have HLT:Hid (Zai o W1):=by show Zai _ _;exact HL.out.mono (by have:=hbW.size;simpa [World.setCell] using this)
 have hmax:p.many<1048577:=by have:=HH.out.many;omega
 have hmx:(p.many:Int)+1<9223372036854775807:=by omega
 clear hfin old oldf hbW hW1 hb hB n0 n1 n2 n3 n4 t0 c0 c1 c2 c3 c4 d f3 f4 fs0 ft0
 refine Zan (fun W:World=>W.cell? ⟨pb,1,none⟩=some (.slice (some ⟨gs,0,none⟩) p.at_.length cs)/\W.cell? ⟨pb,2,none⟩=some (.slice (some ⟨gt,0,none⟩) p.at_.length ct) /\
  W.cell? ⟨b,0,none⟩=some (.int .i64 id)/\W.cell? ⟨b,1,none⟩=some (.int .i64 n.v)/\W.cell? ⟨b,2,none⟩=some (.int .i64 n.lo)/\W.cell? ⟨b,3,none⟩=some (.int .i64 n.hi)/\W.cell? ⟨b,4,none⟩=some (.int .i64 n.refs)) true 14
  [(0,false),(1,false),(2,false),(3,false),(4,false),(5,false),(6,false),(7,false),(8,false),(9,false),(10,false),(11,false),(12,true),(13,false),(14,true)] (by kernel_rfl) (by kernel_rfl) (HS.out _ (fun _ _=>rfl)) ?_
 simp only[planned,Zd8]
 iterate 12
  refine Zap rfl ?_;apply Exists.intro;refine⟨fun w' hw=>?_,?_⟩
  ·
   obtain⟨h1,h2,h3,h4,h5,h6,h7⟩:=hw;go_simp;rfl
  simp only[Zag]
 refine Znm rfl (fun K hK=>?_);unfold Oper.wp;go_simp;refine hK _ _ (HS.out _ (fun g hg=>Zbe (w:=W1) (n:=⟨id,n.v,n.lo,n.hi,n.refs⟩) hg)) ?_
 iterate 1
  refine Zap rfl ?_;apply Exists.intro;refine⟨fun w' hw=>?_,?_⟩
  ·
   obtain⟨h1,h2,h3,h4,h5,h6,h7⟩:=hw;go_simp;rfl
  simp only[Zag]
 refine Zel rfl (fun K hK=>?_);unfold Oper.wp;go_simp;refine hK _ _ (Zbx ?_);go_wp2_with fail
 go_ret2
 have hfin:=HFIN.out W1 (Below.refl _ _);rw[show ((p.many+1:Nat):Int)=(p.many:Int)+1 by omega] at hfin;exact⟨rfl,hfin.1.drew,hfin.2.drew,HLT.out.mono (by simp[World.setCell])⟩
open Go.RowKit
theorem Znx (o:Own) (pb:Nat) (p:Zak) (n:RN) (w:World) (h:Zao o w pb p) (hf:p.free=[]) (hfull:p.room<p.at_.length) :
 Calls Tryz.prog 169 #[.pointer (some ⟨pb,0,none⟩),Zau n] w fun x w'=>x=.returned (.tuple #[.int .i64 0,.int .i64 7])/\Below w.heap.size w w':=by
 obtain⟨vs,vt,vf,c0,c1,c2,c3,c4,hs,ht,hff⟩:=h.cells;obtain⟨gs,cs,rfl,_⟩:=hs.shape h.pos;obtain⟨af,cf,rfl,_⟩:=hff.slice;rw[hf] at c3;have hfull':(p.room:Int)<p.at_.length:=by omega
 have lpb:pb<w.heap.size:=Zab c0;have htop:=h.top;have hroom:=h.room;clear hs ht hff h hf;unfold Zau
 go_enter Tryz.func169,Tryz.ntmps169
 go_wp2_with (fail)
 go_quiet (fail)
 go_wp2_with (fail)
 go_ret2
 exact⟨rfl,by first|exact Zaf w _|exact Zd1 w _ _⟩
theorem cells5 {w:World} {g:Nat} {a b c d e:Value} {T:TypeId} (h:w.heap[g]?=some (.cells #[a,b,c,d,e] T (0,0))):w.cell? ⟨g,0,none⟩=some a/\w.cell? ⟨g,1,none⟩=some b/\w.cell? ⟨g,2,none⟩=some c/\w.cell? ⟨g,3,none⟩=some d/\w.cell? ⟨g,4,none⟩=some e/\(∀ k,w.frozen? ⟨g,k,none⟩=false) :=
 ⟨by rw[cell_of_row w g 0 _ _ _ h];rfl,by rw[cell_of_row w g 1 _ _ _ h];rfl,by rw[cell_of_row w g 2 _ _ _ h];rfl,by rw[cell_of_row w g 3 _ _ _ h];rfl,by rw[cell_of_row w g 4 _ _ _ h];rfl,fun k=>by simp[World.frozen?,h]⟩
theorem Zai.none {o:Own} {w:World} (h:Zai o w) {b:Nat} (hb:w.heap.size<=b):o b=Option.none:=by
 cases e:o b with
 | none=>rfl
 | some r=>have:=h b r e;omega
theorem RowR.below {o:Own} {w w':World} {r:Role} {e:TypeId} {size:Nat} {v:Value} {n:Nat} {xs:List Value} (h:RowR o w r e size v n xs) (hlt:Zai o w) (hb:Below w.heap.size w w'):RowR o w' r e size v n xs :=
 h.keep (fun g hg=>hb.block g (hlt g r hg)) (fun _ h=>h)
theorem Zjm:(Tryz.prog.info? 65).map (fun i=>(i.zero,i.size,i.bytes))=some (some (.agg #[.int .i64 0,.int .i64 0,.int .i64 0,.int .i64 0,.int .i64 0]),5,40):=by kernel_rfl
theorem Zng:(Tryz.prog.info? 4).map (fun i=>(i.zero,i.size,i.bytes))=some (some (.bool false),1,1):=by kernel_rfl
theorem Zao.toFresh {o o':Own} {w W:World} {pb gs gt cs ct:Nat} {p:Zak} (h:Zao o w pb p) {n:RN} (hf:p.free=[]) (hr:p.at_.length<=p.room) (hopb:o' pb=some .pool) {vf:Value}
 (hpb:W.heap[pb]?=some (.cells #[.int .i64 p.room,.slice (some ⟨gs,0,none⟩) (p.at_.length+1) cs,.slice (some ⟨gt,0,none⟩) (p.at_.length+1) ct,vf,.int .i64 p.many] 190 (0,0)))
 (h2:RowR o' W .slots 65 5 (.slice (some ⟨gs,0,none⟩) (p.at_.length+1) cs) (p.at_.length+1) ((p.at_++[rn0]).flatMap rnV))
 (h3:RowR o' W .taken 4 1 (.slice (some ⟨gt,0,none⟩) (p.at_.length+1) ct) (p.at_.length+1) ((p.taken++[false]).map Value.bool))
 (h4:RowR o' W .free 3 1 vf p.free.length (p.free.map nat64)) :
 Zao o' (((set5 W gs p.at_.length { n with id:=p.at_.length }).setCell ⟨gt,p.at_.length,none⟩ (.bool true)).setCell ⟨pb,4,none⟩ (.int .i64 ((p.many+1:Nat):Int))) pb (p.fresh n) /\
 Chg (fun r=>r=.pool\/r=.slots\/r=.taken\/r=.free) o' o' W (((set5 W gs p.at_.length { n with id:=p.at_.length }).setCell ⟨gt,p.at_.length,none⟩ (.bool true)).setCell ⟨pb,4,none⟩ (.int .i64 ((p.many+1:Nat):Int))):=by
 have os:=h2.owner;have ot:=h3.owner;have ne:∀ {a b r q},o' a=some r->o' b=some q->r≠q->a≠b:=fun ha hb hr e=>by subst e;rw[ha] at hb;cases hb;exact hr rfl
 have hl:p.taken.length=p.at_.length:=h.len;have hset:(p.at_++[rn0]).set p.at_.length { n with id:=p.at_.length }=p.at_++[{ n with id:=p.at_.length }]:=by
  rw[List.set_append_right _ _ (Nat.le_refl _)];simp
 have hget:∀ i,(p.fresh n).tk i=(p.tk i||i == p.at_.length):=by
  intro i;unfold Zak.tk Zak.fresh;dsimp only;rcases Nat.lt_trichotomy i p.taken.length with h'|h'|h'
  ·
   have hne:i≠p.at_.length:=by omega
   simp[List.getD,List.getElem?_append_left,h',hne]
  ·
   subst h';simp[List.getD,hl]
  ·
   have hne:i≠p.at_.length:=by omega
   have h1:i-p.taken.length≠0:=by omega
   have h0:p.taken.length<=i:=by omega
   simp[List.getD,List.getElem?_append_right,h0,hne,h1]
 have hnd:∀ i,i≠p.at_.length->(p.fresh n).nd i=p.nd i:=by
  intro i hi;unfold Zak.nd Zak.fresh;dsimp only;rcases Nat.lt_or_ge i p.at_.length with h'|h'
  ·
   simp[List.getD,List.getElem?_append_left,h']
  ·
   have h1:i-p.at_.length≠0:=by omega
   simp[List.getD,List.getElem?_append_right,h',h1]
 refine⟨⟨hopb,⟨.slice (some ⟨gs,0,none⟩) (p.at_.length+1) cs,.slice (some ⟨gt,0,none⟩) (p.at_.length+1) ct,vf,?_,?_,?_,?_⟩,?_,h.room,?_,?_,?_,?_,?_,?_,?_,?_⟩,?_⟩
 ·
  have e:((set5 W gs p.at_.length { n with id:=p.at_.length }).setCell ⟨gt,p.at_.length,none⟩ (.bool true)).heap[pb]?=W.heap[pb]?:=(Zad (ne hopb ot (by simp)) _).trans (Zbe (ne hopb os (by simp)));exact Zae (e.trans hpb) _
 ·
  have a0:=Zh5 (l:=p.at_++[rn0]) (by simpa using h2) (k:=p.at_.length) (by simp) { n with id:=p.at_.length };have a1:=(a0.setCell_other (p:=⟨gt,p.at_.length,none⟩) (by rw[ot];simp) (.bool true)).setCell_other (p:=⟨pb,4,none⟩) (by rw[hopb];simp) (.int .i64 ((p.many+1:Nat):Int));rw[hset] at a1;simpa [Zak.fresh] using a1
 ·
  have a1:=(h3.keep (w':=set5 W gs p.at_.length { n with id:=p.at_.length }) (o':=o') (fun g hg=>Zbe (ne hg os (by simp))) (fun _ h=>h)).stored p.at_.length (.bool true);have a2:=a1.setCell_other (p:=⟨pb,4,none⟩) (by rw[hopb];simp) (.int .i64 ((p.many+1:Nat):Int));rw[<- hl,List.map_append,List.set_append_right _ _ (by simp)] at a2;simp only[Zak.fresh,List.length_append,List.length_singleton,List.map_append];simpa [hl] using a2
 ·
  exact((h4.keep (w':=set5 W gs p.at_.length { n with id:=p.at_.length }) (o':=o') (fun g hg=>Zbe (ne hg os (by simp))) (fun _ h=>h)).setCell_other (p:=⟨gt,p.at_.length,none⟩) (by rw[ot];simp) (.bool true)).setCell_other (p:=⟨pb,4,none⟩) (by rw[hopb];simp) (.int .i64 ((p.many+1:Nat):Int))
 ·
  simp[Zak.fresh,hl]
 ·
  simp only[Zak.fresh,List.length_append,List.length_singleton];omega
 ·
  rw[hget];have:=h.pos;simp[h.zero];omega
 ·
  simp[Zak.fresh]
 ·
  intro i hi
  by_cases e:i=p.at_.length
  ·
   subst e;simp[Zak.nd,Zak.fresh,List.getD]
  ·
   rw[hnd i e];rw[hget] at hi;simp[e] at hi;exact h.id i hi
 ·
  have:=h.many;simp only[Zak.fresh,List.length_append,List.length_singleton];omega
 ·
  exact h.nodup
 ·
  intro i hi;have:i∈p.free:=hi;rw[hf] at this;cases this
 ·
  have e1:(p.fresh n).at_.length=p.at_.length+1:=by simp[Zak.fresh]
  have hne1:∀ i,i<p.at_.length->(if (p.fresh n).tk i=true then (1:Int) else 0)=if p.tk i=true then 1 else 0:=by
   intro i hi;have hne:(i == p.at_.length)=false:=by simp;omega
   rw[hget,hne];simp
  rw[e1,Zar,Zax (g:=fun i=>if p.tk i=true then 1 else 0) p.at_.length hne1,<- h.cnt,hget];simp[Zak.fresh]
 ·
  exact((Zjs (Chg.refl _ _ _) os (.inr (.inl rfl))).setCell (p:=⟨gt,p.at_.length,none⟩) ot (.inr (.inr (.inl rfl))) _).setCell (p:=⟨pb,4,none⟩) hopb (.inl rfl) _
theorem Ziq (T e ty:TypeId) (size bytes:Nat) (z:Value) (hT:Tryz.prog.underlying T=some (.slice e)) (he:(Tryz.prog.info? e).map (fun i=>(i.zero,i.size,i.bytes))=some (some z,size,bytes)) (hzs:z.cells.size=size) (hsz:0<size)
 {wr:World} {o:Own} {r:Role} {v:Value} {n:Nat} {xs:List Value} (news:Array Value) (hl:news.size=size) (h1:∀ u∈news.toList,u.oneCell'=true) (h:RowR o wr r e size v n xs) (hlt:Zai o wr) (hn:n<1000000000) (hb:bytes<=10000) :
 ∃ g cap w' o',(Builtin.append_ #[T,T] ty #[v,.slice (some ⟨wr.heap.size,0,none⟩) 1 1]).run Tryz.prog (wr.alloc (.cells news e))=.ok (.slice (some ⟨g,0,none⟩) (n+1) cap) w' /\
  RowR o' w' r e size (.slice (some ⟨g,0,none⟩) (n+1) cap) (n+1) (xs++news.toList)/\Chg (· = r) o o' wr w'/\Zai o' w':=by
 obtain⟨i,hi,hz,hsize,hby⟩:=info_parts he;have hbl:Below wr.heap.size wr (wr.alloc (.cells news e)):=Zaf _ _;have hRow:RowR o (wr.alloc (.cells news e)) r e size v n xs:=h.keep (fun g hg=>hbl.block g (hlt g r hg)) (fun _ h=>h);have hcell:∀ j u,news.toList[j]?=some u->(wr.alloc (.cells news e)).cell? ((⟨wr.heap.size,0,none⟩:Addr).add j)=some u:=by
  intro j u hu;have hadd:(⟨wr.heap.size,0,none⟩:Addr).add j=⟨wr.heap.size,j,none⟩:=by unfold Addr.add;split<;>simp_all
  rw[hadd,cell_of_row _ _ _ _ _ _ (heap_alloc_new wr _)];simpa using hu
 have hnb:(n+1)*bytes<=140737488355328:=Nat.le_trans (Nat.mul_le_mul (show n+1<=1000000000 by omega) hb) (by decide);obtain⟨v',w',o',a0,a1,a2,a3⟩:=hRow.append (P:=Tryz.prog) (hlt.mono hbl.size) T ty i z bytes hT hi hz hsize hby hzs hsz ⟨wr.heap.size,0,none⟩ 1 1 news.toList (by simpa using hl) hcell h1 (by unfold maxLen;omega) hnb;obtain⟨g,cap,rfl,_⟩:=a1.shape (by omega);exact⟨g,cap,w',o',a0,a1,(Chg.of_below hbl _ _).trans a2,a3⟩
theorem Zdi (T e:TypeId) (size bytes:Nat) (z:Value) (hT:Tryz.prog.underlying T=some (.slice e)) (he:(Tryz.prog.info? e).map (fun i=>(i.zero,i.size,i.bytes))=some (some z,size,bytes)) (hzs:z.cells.size=size) (hsz:0<size)
 {wr:World} {ops:Array Oper} {rest:List Oper} {op:Oper} {a:Act} {Q:Exit->Act->World->Prop} {W:World} (hgd:op.guard=none) (s x:Operand)
 (hop:op.op=.call { callee:=.builtin .append,args:=#[s,x],argTypes:=#[T,T] })
 {o:Own} {r:Role} {v:Value} {n:Nat} {xs:List Value} (hs:a.eval s=v) {N:Nat} (hx:a.eval x=.slice (some ⟨N,0,none⟩) 1 1) {news:Array Value}
 (hW:W=wr.alloc (.cells news e)) (hN:N=wr.heap.size) (hl:news.size=size) (h1:∀ u∈news.toList,u.oneCell'=true) (h:RowR o wr r e size v n xs) (hlt:Zai o wr) (hn:n<1000000000) (hb:bytes<=10000)
 (hK:∀ g cap w' o',RowR o' w' r e size (.slice (some ⟨g,0,none⟩) (n+1) cap) (n+1) (xs++news.toList)->Chg (· = r) o o' wr w'->Zai o' w'->wpList Tryz.prog ops Q rest (a.put op.dst (.slice (some ⟨g,0,none⟩) (n+1) cap)) w'):wpList Tryz.prog ops Q (op::rest) a W:=by
 subst hN;subst hW
 obtain⟨g,cap,w',o',hr,h2,h3,h4⟩:=Ziq T e op.type size bytes z hT he hzs hsz news hl h1 h hlt hn hb;refine wpList_plain hgd fun K hKK=>?_
 unfold Oper.wp execOp;simp only[hop,resolve,invoke,builtin,Sem.run_bind,Sem.run_pure,Result.andThen_ok,List.map_toArray,List.map_cons,List.map_nil,hs,hx,hr];exact hKK _ _ (hK g cap w' o' h2 h3 h4)
structure Zmy (o:Own) (w:World) (p:Zak) (n:RN) (b pb:Nat) (vs vt vf:Value) (nl nt:Nat) (xs:List Value) (bs:List Value) (o1:Own) (wx:World):Prop where
 fpb:wx.heap[pb]?=some (.cells #[.int .i64 p.room,vs,vt,vf,.int .i64 p.many] 190 (0,0))
 box:wx.heap[b]?=some (.cells #[.int .i64 n.id,.int .i64 n.v,.int .i64 n.lo,.int .i64 n.hi,.int .i64 n.refs] 65 (0,0))
 slots:RowR o1 wx .slots 65 5 vs nl xs
 taken:RowR o1 wx .taken 4 1 vt nt bs
 free:RowR o1 wx .free 3 1 vf p.free.length (p.free.map nat64)
 chg:Chg (fun r=>r=.pool\/r=.slots\/r=.taken\/r=.free) o o1 w wx
 lt:Zai o1 wx
 ob:o1 b=none
 op:o1 pb=some .pool
theorem Zmy.grown1 {o:Own} {w:World} {p:Zak} {n:RN} {b pb:Nat} {vs vt vf vs':Value} {nl nt nl':Nat} {xs bs xs':List Value} {o1 o2:Own} {wx wy:World} (h:Zmy o w p n b pb vs vt vf nl nt xs bs o1 wx)
 (hr:RowR o2 wy .slots 65 5 vs' nl' xs') (hc:Chg (· = .slots) o1 o2 wx wy) (hl:Zai o2 wy):Zmy o w p n b pb vs' vt vf nl' nt xs' bs o2 (wy.setCell ⟨pb,1,none⟩ vs'):=by
 have hop:=hc.ext _ _ h.op;have hlb:b<wx.heap.size:=(Array.getElem?_eq_some_iff.1 h.box).1;have hbn:=hc.alien' hlb h.ob;have npb:b≠pb:=by intro e;have h1:=h.op;rw[<- e,h.ob] at h1;cases h1
 exact⟨Zae ((hc.same h.lt h.op (by simp)).trans h.fpb) _,(Zad npb _).trans ((hc.alien hlb h.ob).trans h.box),hr.setCell_other (by rw[hop];simp) _,(h.taken.chg hc h.lt (by simp)).setCell_other (by rw[hop];simp) _,
  (h.free.chg hc h.lt (by simp)).setCell_other (by rw[hop];simp) _,(h.chg.trans (hc.mono fun r e=>.inr (.inl e))).setCell (p:=⟨pb,1,none⟩) hop (.inl rfl) _,hl.mono (by simp[World.setCell]),hbn,hop⟩
theorem Zmy.grown2 {o:Own} {w:World} {p:Zak} {n:RN} {b pb:Nat} {vs vt vf vt':Value} {nl nt nt':Nat} {xs bs bs':List Value} {o1 o2:Own} {wx wy:World} (h:Zmy o w p n b pb vs vt vf nl nt xs bs o1 wx)
 (hr:RowR o2 wy .taken 4 1 vt' nt' bs') (hc:Chg (· = .taken) o1 o2 wx wy) (hl:Zai o2 wy):Zmy o w p n b pb vs vt' vf nl nt' xs bs' o2 (wy.setCell ⟨pb,2,none⟩ vt'):=by
 have hop:=hc.ext _ _ h.op;have hlb:b<wx.heap.size:=(Array.getElem?_eq_some_iff.1 h.box).1;have hbn:=hc.alien' hlb h.ob;have npb:b≠pb:=by intro e;have h1:=h.op;rw[<- e,h.ob] at h1;cases h1
 exact⟨Zae ((hc.same h.lt h.op (by simp)).trans h.fpb) _,(Zad npb _).trans ((hc.alien hlb h.ob).trans h.box),(h.slots.chg hc h.lt (by simp)).setCell_other (by rw[hop];simp) _,hr.setCell_other (by rw[hop];simp) _,
  (h.free.chg hc h.lt (by simp)).setCell_other (by rw[hop];simp) _,(h.chg.trans (hc.mono fun r e=>.inr (.inr (.inl e)))).setCell (p:=⟨pb,2,none⟩) hop (.inl rfl) _,hl.mono (by simp[World.setCell]),hbn,hop⟩
theorem Zli (o:Own) (pb:Nat) (p:Zak) (n:RN) (w:World) (h:Zao o w pb p) (hlt:Zai o w) (hf:p.free=[]) (hroom1:p.at_.length<=p.room) :
 Calls Tryz.prog 169 #[.pointer (some ⟨pb,0,none⟩),Zau n] w fun x w'=>x=.returned (.tuple #[.int .i64 p.at_.length,.int .i64 0])/\∃ o',Zao o' w' pb (p.fresh n)/\Chg (fun r=>r=.pool\/r=.slots\/r=.taken\/r=.free) o o' w w'/\Zai o' w':=by
 have hpb0:=h.blk;obtain⟨vs,vt,vf,hpb,hs,ht,hff⟩:=hpb0;obtain⟨gs,cs,rfl,hogs,_⟩:=hs.shape h.pos;obtain⟨gt,ct,rfl,hogt,_⟩:=ht.shape (by rw[h.len];exact h.pos);obtain⟨af,cf,rfl,_⟩:=hff.slice;rw[h.len,hf] at hpb;rw[h.len] at ht;obtain⟨c0,c1,c2,c3,c4,f0⟩:=cells5 hpb;have hroom':¬ (p.room:Int)<p.at_.length:=by omega
 have lpb:pb<w.heap.size:=Zab c0;have htop:=h.top;have hroom:=h.room;have HH:=Hd h;have HL:=Hd hlt;have HS:=Hd hs;have HT:=Hd ht;have HF:=Hd hff;have HOP:=Hd h.own;have HFF:=Hd hf;have HLEN:=Hd h.len;have HPB:=Hd hpb;obtain⟨in_,hin,hinz,hins,hinb⟩:=info_parts Zjm;obtain⟨ib,hib,hibz,hibs,hibb⟩:=info_parts Zng;have HIN:=Hd (⟨hin,hinz,hins,hinb⟩:_/\_/\_/\_);have HIB:=Hd (⟨hib,hibz,hibs,hibb⟩:_/\_/\_/\_);clear hs ht hff h hf hlt hogs hogt hpb hin hinz hins hinb hib hibz hibs hibb;unfold Zau
 go_enter Tryz.func169,Tryz.ntmps169
 go_wp2_with (fail)
 go_quiet (fail)
 have hbw:Below w.heap.size w ((w.alloc (.cells #[.int .i64 n.id,.int .i64 n.v,.int .i64 n.lo,.int .i64 n.hi,.int .i64 n.refs] 65)).drewN nq):=Zd1 w nq _;have hbx:((w.alloc (.cells #[.int .i64 n.id,.int .i64 n.v,.int .i64 n.lo,.int .i64 n.hi,.int .i64 n.refs] 65)).drewN nq).heap[w.heap.size]?=some (.cells #[.int .i64 n.id,.int .i64 n.v,.int .i64 n.lo,.int .i64 n.hi,.int .i64 n.refs] 65 (0,0)):=heap_alloc_new w _;have hwz:((w.alloc (.cells #[.int .i64 n.id,.int .i64 n.v,.int .i64 n.lo,.int .i64 n.hi,.int .i64 n.refs] 65)).drewN nq).heap.size=w.heap.size+1:=by simp
 obtain⟨wq,hwq⟩:∃ wq,wq=(w.alloc (.cells #[.int .i64 n.id,.int .i64 n.v,.int .i64 n.lo,.int .i64 n.hi,.int .i64 n.refs] 65)).drewN nq:=⟨_,rfl⟩;rw[<- hwq] at hbw hbx hwz ⊢;obtain⟨b,hb⟩:∃ b,b=w.heap.size:=⟨_,rfl⟩;rw[<- hb] at hbx hwz ⊢;have hS:Zmy o w p n b pb (.slice (some ⟨gs,0,none⟩) p.at_.length cs) (.slice (some ⟨gt,0,none⟩) p.at_.length ct) (.slice af 0 cf) p.at_.length p.at_.length (p.at_.flatMap rnV) (p.taken.map Value.bool) o wq :=
  ⟨(hbw.block pb lpb).trans HPB.out,hbx,HS.out.below HL.out hbw,HT.out.below HL.out hbw,by have:=HF.out.below HL.out hbw;rw[HFF.out] at this ⊢;exact this,(Chg.of_below hbw _ _),HL.out.mono hbw.size,HL.out.none (by omega),HOP.out⟩
 have HSS:=Hd hS;have HB:=Hd hb;clear c0 c1 c2 c3 c4 f0 hwq hS hb hbx hbw hwz lpb;obtain⟨c0,c1,c2,c3,c4,f0⟩:=cells5 HSS.out.fpb;have lpb:pb<wq.heap.size:=Zab c0;go_upto_region 10 with fail
 go_cut [4] (fun s4 wx=>s4=.int .i64 p.at_.length/\∃ g1 k1 o1,Zmy o w p n b pb (.slice (some ⟨g1,0,none⟩) (p.at_.length+1) k1) (.slice (some ⟨gt,0,none⟩) p.at_.length ct) (.slice af 0 cf) (p.at_.length+1) p.at_.length (p.at_.flatMap rnV++[.int .i64 0,.int .i64 0,.int .i64 0,.int .i64 0,.int .i64 0]) (p.taken.map Value.bool) o1 wx)
 case first =>
  go_wp2_with (at_builtin
               refine Zdi 63 65 5 40 _ Tryz.underlying63 Zjm rfl (by decide) rfl _ _ rfl rfl rfl rfl (by simp) rfl (by decide) HSS.out.slots HSS.out.lt (by omega) (by decide) ?_;intro g1 k1 w1 o1 hr1 hc1 hl1;obtain⟨q0,q1,q2,q3,q4,fq⟩:=cells5 ((hc1.same HSS.out.lt HSS.out.op (by simp)).trans HSS.out.fpb);have HR1:=Hd hr1;have HC1:=Hd hc1;have HL1:=Hd hl1;clear hr1 hc1 hl1 c0 c1 c2 c3 c4 f0)
  go_meet;exact⟨rfl,g1,k1,o1,HSS.out.grown1 HR1.out HC1.out HL1.out⟩
 case rest =>
  obtain⟨rfl,g1,k1,o1,hS⟩:=hcut;clear c0 c1 c2 c3 c4 f0 lpb HSS
  rename World=>wr
  have HSS:=Hd hS;obtain⟨c0,c1,c2,c3,c4,f0⟩:=cells5 hS.fpb;have lpb:pb<wr.heap.size:=Zab c0;clear hS;go_upto_region 11 with fail
  go_cut [4] (fun s4 wx=>s4=.int .i64 p.at_.length/\∃ g1 k1 g2 k2 o1,Zmy o w p n b pb (.slice (some ⟨g1,0,none⟩) (p.at_.length+1) k1) (.slice (some ⟨g2,0,none⟩) (p.at_.length+1) k2) (.slice af 0 cf) (p.at_.length+1) (p.at_.length+1) (p.at_.flatMap rnV++[.int .i64 0,.int .i64 0,.int .i64 0,.int .i64 0,.int .i64 0]) (p.taken.map Value.bool++[.bool false]) o1 wx)
  case first =>
   go_wp2_with (at_builtin
                refine Zdi 54 4 1 1 _ Tryz.underlying54 Zng rfl (by decide) rfl _ _ rfl rfl rfl rfl (by simp) rfl (by decide) HSS.out.taken HSS.out.lt (by omega) (by decide) ?_;intro g2 k2 w2 o2 hr1 hc1 hl1;obtain⟨q0,q1,q2,q3,q4,fq⟩:=cells5 ((hc1.same HSS.out.lt HSS.out.op (by simp)).trans HSS.out.fpb);have HR1:=Hd hr1;have HC1:=Hd hc1;have HL1:=Hd hl1;clear hr1 hc1 hl1 c0 c1 c2 c3 c4 f0)
   go_meet;exact⟨rfl,g1,k1,g2,k2,o2,HSS.out.grown2 HR1.out HC1.out HL1.out⟩
  case rest =>
   obtain⟨rfl,g1,k1,g2,k2,o1,hS⟩:=hcut;clear c0 c1 c2 c3 c4 f0 lpb HSS
   rename World=>w3
   have HSS:=Hd hS;obtain⟨c0,c1,c2,c3,c4,f0⟩:=cells5 hS.fpb;obtain⟨b0,b1,b2,b3,b4,fb⟩:=cells5 hS.box;have lpb:pb<w3.heap.size:=Zab c0;have lb:b<w3.heap.size:=Zab b0;have npb:pb≠b:=by intro e;have h1:=hS.op;rw[e,hS.ob] at h1;cases h1
   clear hS;go_upto_region 13 with fail;obtain⟨W1,hW1⟩:∃ W1,W1=w3.setCell ⟨b,0,none⟩ (.int .i64 p.at_.length):=⟨_,rfl⟩;rw[<- hW1];have hbox:W1.heap[b]?=some (.cells #[.int .i64 p.at_.length,.int .i64 n.v,.int .i64 n.lo,.int .i64 n.hi,.int .i64 n.refs] 65 (0,0)):=by rw[hW1];exact Zae HSS.out.box _
   have hpb1:=(Zad (p:=⟨b,0,none⟩) npb (.int .i64 p.at_.length:Value)).trans HSS.out.fpb;rw[<- hW1] at hpb1;have hc1:Chg (fun r=>r=.pool\/r=.slots\/r=.taken\/r=.free) o o1 w W1:=by
    rw[hW1];exact HSS.out.chg.setCell_new (p:=⟨b,0,none⟩) (by rw[HB.out];exact Nat.le_refl _) _
   have hbo:∀ r,o1 (⟨b,0,none⟩:Addr).block≠some r:=by intro r e;rw[show o1 (⟨b,0,none⟩:Addr).block=o1 b from rfl,HSS.out.ob] at e;cases e
   have hs1:RowR o1 W1 .slots 65 5 (.slice (some ⟨g1,0,none⟩) (p.at_.length+1) k1) (p.at_.length+1) ((p.at_++[rn0]).flatMap rnV):=by
    rw[hW1,List.flatMap_append];exact HSS.out.slots.setCell_other (hbo _) _
   have ht1:RowR o1 W1 .taken 4 1 (.slice (some ⟨g2,0,none⟩) (p.at_.length+1) k2) (p.at_.length+1) ((p.taken++[false]).map Value.bool):=by
    rw[hW1,List.map_append];exact HSS.out.taken.setCell_other (hbo _) _
   have hf1:RowR o1 W1 .free 3 1 (.slice af 0 cf) p.free.length (p.free.map nat64):=by rw[hW1];exact HSS.out.free.setCell_other (hbo _) _
   have hl1:Zai o1 W1:=by rw[hW1];exact HSS.out.lt.mono (by simp[World.setCell])
   have hfin:=HH.out.toFresh (n:=n) HFF.out hroom1 HSS.out.op hpb1 hs1 ht1 hf1;have ne:∀ {a b r q},o1 a=some r->o1 b=some q->r≠q->a≠b:=fun ha hb hr e=>by subst e;rw[ha] at hb;cases hb;exact hr rfl
   have nps:pb≠g1:=ne HSS.out.op hs1.owner (by simp);have npt:pb≠g2:=ne HSS.out.op ht1.owner (by simp);have nst:g1≠g2:=ne hs1.owner ht1.owner (by simp);have nbs:b≠g1:=by intro e;have h1:=hs1.owner;rw[<- e,HSS.out.ob] at h1;cases h1
   obtain⟨s0,s1,s2,s3,s4⟩:=Zao.node (p:={ p with at_:=p.at_++[rn0] }) (k:=p.at_.length) (by simpa using hs1) (by simp);have fg1:=hs1.frozen;have t0:=Zao.flag (p:={ p with taken:=p.taken++[false] }) (k:=p.at_.length) (by simpa [HLEN.out] using ht1) (by simp[HLEN.out]);have fg2:=ht1.frozen p.at_.length;clear c0 c1 c2 c3 c4 f0 b0 b1 b2 b3 b4 fb lpb lb ne;obtain⟨c0,c1,c2,c3,c4,f0⟩:=cells5 hpb1;obtain⟨b0,b1,b2,b3,b4,fb⟩:=cells5 hbox
   have HS2:Hid (∀ W:World,(∀ g,g≠g1->W.heap[g]?=W1.heap[g]?)->W.cell? ⟨pb,1,none⟩=some (.slice (some ⟨g1,0,none⟩) (p.at_.length+1) k1)/\W.cell? ⟨pb,2,none⟩=some (.slice (some ⟨g2,0,none⟩) (p.at_.length+1) k2) /\
    W.cell? ⟨b,0,none⟩=some (.int .i64 p.at_.length)/\W.cell? ⟨b,1,none⟩=some (.int .i64 n.v)/\W.cell? ⟨b,2,none⟩=some (.int .i64 n.lo)/\W.cell? ⟨b,3,none⟩=some (.int .i64 n.hi)/\W.cell? ⟨b,4,none⟩=some (.int .i64 n.refs)):=by
    show ∀ _,_
    intro W hW;have a:=fun g k (hg:g≠g1)=>World.cell?_of_block (w:=W1) (w':=W) (a:=⟨g,k,none⟩) (hW g hg)
    exact⟨(a pb 1 nps).trans c1,(a pb 2 nps).trans c2,(a b 0 nbs).trans b0,(a b 1 nbs).trans b1,(a b 2 nbs).trans b2,(a b 3 nbs).trans b3,(a b 4 nbs).trans b4⟩
   have HFIN:=Hd hfin;have HC1:=Hd hc1;have HL1:=Hd hl1;have hmx:(p.many:Int)+1<9223372036854775807:=by have:=HH.out.many;omega
   have hil:(p.at_.length:Int)<(p.at_.length:Int)+1:=by omega
   clear hfin hc1 hl1 hs1 ht1 hf1 hbox hpb1 hbo hW1 c0 c1 c2 c3 b0 b1 b2 b3 b4 fb HSS
   refine Zan (fun W:World=>W.cell? ⟨pb,1,none⟩=some (.slice (some ⟨g1,0,none⟩) (p.at_.length+1) k1)/\W.cell? ⟨pb,2,none⟩=some (.slice (some ⟨g2,0,none⟩) (p.at_.length+1) k2) /\
    W.cell? ⟨b,0,none⟩=some (.int .i64 p.at_.length)/\W.cell? ⟨b,1,none⟩=some (.int .i64 n.v)/\W.cell? ⟨b,2,none⟩=some (.int .i64 n.lo)/\W.cell? ⟨b,3,none⟩=some (.int .i64 n.hi)/\W.cell? ⟨b,4,none⟩=some (.int .i64 n.refs)) true 14
    [(0,false),(1,false),(2,false),(3,false),(4,false),(5,false),(6,false),(7,false),(8,false),(9,false),(10,false),(11,false),(12,true),(13,false),(14,true)] (by kernel_rfl) (by kernel_rfl) (HS2.out _ (fun _ _=>rfl)) ?_
   simp only[planned,Zd8]
   iterate 12
    refine Zap rfl ?_;apply Exists.intro;refine⟨fun w' hw=>?_,?_⟩
    ·
     obtain⟨h1,h2,h3,h4,h5,h6,h7⟩:=hw;go_simp;rfl
    simp only[Zag]
   refine Znm rfl (fun K hK=>?_);unfold Oper.wp;go_simp;refine hK _ _ (HS2.out _ (fun g hg=>Zbe (w:=W1) (n:=⟨p.at_.length,n.v,n.lo,n.hi,n.refs⟩) hg)) ?_
   iterate 1
    refine Zap rfl ?_;apply Exists.intro;refine⟨fun w' hw=>?_,?_⟩
    ·
     obtain⟨h1,h2,h3,h4,h5,h6,h7⟩:=hw;go_simp;rfl
    simp only[Zag]
   refine Zel rfl (fun K hK=>?_);unfold Oper.wp;go_simp;refine hK _ _ (Zbx ?_);go_wp2_with fail
   go_ret2
   have hfin:=HFIN.out;rw[show ((p.many+1:Nat):Int)=(p.many:Int)+1 by omega] at hfin;exact⟨rfl,o1,hfin.1.drew,(HC1.out.trans hfin.2).drew,HL1.out.mono (by simp[World.setCell])⟩
open Go.RowKit
theorem Zcz {P:Program} {w:World} {g k:Nat} {v u:Value} (hc:w.cell? ⟨g,k,none⟩=some u) (hf:w.frozen? ⟨g,k,none⟩=false) (h1:v.oneCell'=true):(store ⟨g,k,none⟩ v).run P w=.ok () (w.setCell ⟨g,k,none⟩ v):=by
 rw[run_store P w _ v _ h1,hc];simp[hf]
theorem Zbd {w:World} {p q:Addr} {v u:Value} (h:w.cell? q=some u):∃ u',(w.setCell p v).cell? q=some u':=by
 by_cases e:p=q
 ·
  subst e;exact⟨v,World.cell?_setCell_same' _ _ _ (by rw[h];rfl)⟩
 ·
  exact⟨u,by rw[World.cell?_setCell_other w p q v e];exact h⟩
theorem Zz7:(Tryz.prog.info? 65).map (fun i=>i.size)=some 5:=by kernel_rfl
theorem Zbt {w:World} {g k:Nat} (f:∀ j,w.frozen? ⟨g,j,none⟩=false) {u0 u1 u2 u3 u4:Value} (c0:w.cell? ⟨g,k*5,none⟩=some u0) (c1:w.cell? ⟨g,k*5+1,none⟩=some u1) (c2:w.cell? ⟨g,k*5+2,none⟩=some u2) (c3:w.cell? ⟨g,k*5+3,none⟩=some u3) (c4:w.cell? ⟨g,k*5+4,none⟩=some u4) (a b c d e:Int) :
 (Instr.storeAt 65 (.pointer (some ⟨g,k*5,none⟩)) (.agg #[.int .i64 a,.int .i64 b,.int .i64 c,.int .i64 d,.int .i64 e])).run Tryz.prog w =
  .ok () (((((w.setCell ⟨g,k*5,none⟩ (.int .i64 a)).setCell ⟨g,k*5+1,none⟩ (.int .i64 b)).setCell ⟨g,k*5+2,none⟩ (.int .i64 c)).setCell ⟨g,k*5+3,none⟩ (.int .i64 d)).setCell ⟨g,k*5+4,none⟩ (.int .i64 e)):=by
 have s:=Zz7;have hadd:∀ j,(⟨g,k*5,none⟩:Addr).add j=⟨g,k*5+j,none⟩:=fun j=>by unfold Addr.add;split<;>simp_all
 have hsa:(Instr.sureAddr (Value.pointer (some ⟨g,k*5,none⟩))).run Tryz.prog w=.ok ⟨g,k*5,none⟩ w:=rfl;cases hi:Tryz.prog.info? 65 with
 | none=>rw[hi] at s;cases s
 | some i =>
   rw[hi] at s;simp only[Option.map_some,Option.some.injEq] at s;have fz:∀ (w':World) p v j,(w'.setCell p v).frozen? ⟨g,j,none⟩=w'.frozen? ⟨g,j,none⟩:=fun w' p v j=>World.frozen?_setCell _ _ _ _
   obtain⟨v1,e1⟩:=Zbd (p:=⟨g,k*5,none⟩) (v:=.int .i64 a) c1;obtain⟨v2,e2⟩:=Zbd (p:=⟨g,k*5,none⟩) (v:=.int .i64 a) c2;obtain⟨v2,e2⟩:=Zbd (p:=⟨g,k*5+1,none⟩) (v:=.int .i64 b) e2;obtain⟨v3,e3⟩:=Zbd (p:=⟨g,k*5,none⟩) (v:=.int .i64 a) c3;obtain⟨v3,e3⟩:=Zbd (p:=⟨g,k*5+1,none⟩) (v:=.int .i64 b) e3;obtain⟨v3,e3⟩:=Zbd (p:=⟨g,k*5+2,none⟩) (v:=.int .i64 c) e3;obtain⟨v4,e4⟩:=Zbd (p:=⟨g,k*5,none⟩) (v:=.int .i64 a) c4;obtain⟨v4,e4⟩:=Zbd (p:=⟨g,k*5+1,none⟩) (v:=.int .i64 b) e4;obtain⟨v4,e4⟩:=Zbd (p:=⟨g,k*5+2,none⟩) (v:=.int .i64 c) e4;obtain⟨v4,e4⟩:=Zbd (p:=⟨g,k*5+3,none⟩) (v:=.int .i64 d) e4;have s0:=Zcz (P:=Tryz.prog) (v:=.int .i64 a) c0 (f _) rfl;have s1:=Zcz (P:=Tryz.prog) (v:=.int .i64 b) e1 (by rw[fz];exact f _) rfl;have s2:=Zcz (P:=Tryz.prog) (v:=.int .i64 c) e2 (by rw[fz,fz];exact f _) rfl;have s3:=Zcz (P:=Tryz.prog) (v:=.int .i64 d) e3 (by rw[fz,fz,fz];exact f _) rfl;have s4:=Zcz (P:=Tryz.prog) (v:=.int .i64 e) e4 (by rw[fz,fz,fz,fz];exact f _) rfl;simp only[Instr.storeAt,Sem.run_bind,hsa,Result.andThen_ok];simp[storeVar,sizeOf,typeInfo,hi,s,Value.cells,storeCells,hadd,s0,s1,s2,s3,s4]
theorem Zdy {P:Program} {w:World} {T:TypeId} (hs:(P.info? T).map (fun i=>i.size)=some 1) {g k:Nat} {u v:Value} (hc:w.cell? ⟨g,k,none⟩=some u) (hf:w.frozen? ⟨g,k,none⟩=false) (h1:v.oneCell'=true) (hv:v.cells=#[v]) :
 (Instr.storeAt T (.pointer (some ⟨g,k,none⟩)) v).run P w=.ok () (w.setCell ⟨g,k,none⟩ v):=by
 have hsa:(Instr.sureAddr (Value.pointer (some ⟨g,k,none⟩))).run P w=.ok ⟨g,k,none⟩ w:=rfl;have hadd:(⟨g,k,none⟩:Addr).add 0=⟨g,k,none⟩:=by simp[Addr.add]
 cases hi:P.info? T with
 | none=>rw[hi] at hs;cases hs
 | some i =>
   rw[hi] at hs;simp only[Option.map_some,Option.some.injEq] at hs;have s0:=Zcz (P:=P) hc hf h1;simp only[Instr.storeAt,Sem.run_bind,hsa,Result.andThen_ok];simp[storeVar,sizeOf,typeInfo,hi,hs,hv,storeCells,hadd,s0]
theorem Zz6:(Tryz.prog.info? 4).map (fun i=>i.size)=some 1:=by kernel_rfl
theorem Zig {P:Program} {o:Oper} {a:Act} {w w':World} {t:TypeId} {s x:Operand} (ho:o.op=.store t s x) (hr:(Instr.storeAt t (a.eval s) (a.eval x)).run P w=.ok () w'):(execOp a.eval o).run P w=.ok .skip w':=by
 unfold execOp;simp[ho,hr]
theorem Zkt {P:Program} {ops:Array Oper} {S:World->Prop} {Q:Exit->Act->World->Prop} {last:Bool} {o:Oper} {r:List (Option Oper×Bool)} {a:Act} {w w':World} {t:TypeId} {s x:Operand} (hg:o.guard=none) (ho:o.op=.store t s x)
 (hr:(Instr.storeAt t (a.eval s) (a.eval x)).run P w=.ok () w') (hS:S w') (h:Zck P ops Q S last r (a.put o.dst undef) w'):Zck P ops Q S last ((some o,true)::r) a w:=by
 refine Znm hg fun K hK=>?_
 unfold Oper.wp;rw[Zig ho hr];exact hK _ _ hS h
theorem Zdd {P:Program} {ops:Array Oper} {S:World->Prop} {Q:Exit->Act->World->Prop} {o:Oper} {a:Act} {w w':World} {t:TypeId} {s x:Operand} (hg:o.guard=none) (ho:o.op=.store t s x)
 (hr:(Instr.storeAt t (a.eval s) (a.eval x)).run P w=.ok () w') (h:Q .normal (a.put o.dst undef) w'):Zck P ops (NP Q) S true [(some o,true)] a w:=by
 refine Zel hg fun K hK=>?_
 unfold Oper.wp;rw[Zig ho hr];exact hK _ _ (Zbx h)
def Zak.give (p:Zak) (id:Nat):Zak:={ p with at_:=p.at_.set id rn0,taken:=p.taken.set id false,free:=p.free++[id],many:=p.many-1 }
theorem Zak.give_get {p:Zak} {id:Nat} (h2:id<p.taken.length) (h1:id<p.at_.length) (i:Nat):(p.give id).get i=if i=id then none else p.get i:=by
 unfold Zak.get;have e1:(p.give id).tk i=if i=id then false else p.tk i:=Zla h2 i
 have e2:(p.give id).nd i=if i=id then rn0 else p.nd i:=Zhy h1 i
 rw[e1,e2]
 by_cases e:i=id<;>simp[e]
theorem Zqj {f:Nat->Int} {k j:Nat} (h:∀ i,i<k->0<=f i) (hj:j<k) (hp:1<=f j):1<=Zar k f:=Int.le_trans hp (Zjt k h hj)
theorem Zao.many_pos {o:Own} {w:World} {pb:Nat} {p:Zak} (h:Zao o w pb p) {id:Nat} (hi:p.tk id=true):0<p.many:=by
 have:=h.cnt;have h2:1<=Zar p.at_.length (fun i=>if p.tk i=true then (1:Int) else 0):=Zqj (fun i _=>by split<;>omega) (h.tk_lt hi).2 (by simp[hi]);omega
theorem Zao.toGive {o o1:Own} {w W:World} {pb:Nat} {p:Zak} (h:Zao o w pb p) {id:Nat} (hi:p.tk id=true) {vs vt vf:Value} (hop:o1 pb=some .pool)
 (hpb:W.heap[pb]?=some (.cells #[.int .i64 p.room,vs,vt,vf,.int .i64 ((p.many-1:Nat):Int)] 190 (0,0)))
 (h2:RowR o1 W .slots 65 5 vs p.at_.length ((p.at_.set id rn0).flatMap rnV)) (h3:RowR o1 W .taken 4 1 vt p.at_.length ((p.taken.set id false).map Value.bool))
 (h4:RowR o1 W .free 3 1 vf (p.free.length+1) ((p.free++[id]).map nat64)):Zao o1 W pb (p.give id):=by
 obtain⟨i0,i1⟩:=h.tk_lt hi;have i2:id<p.taken.length:=by rw[h.len];exact i1
 have tk:∀ i,(p.give id).tk i=if i=id then false else p.tk i:=fun i=>Zla i2 i
 have nd:∀ i,(p.give id).nd i=if i=id then rn0 else p.nd i:=fun i=>Zhy i1 i
 have hmp:=h.many_pos hi;have hm:=h.many;refine⟨hop,⟨vs,vt,vf,hpb,?_,?_,?_⟩,?_,h.room,?_,?_,?_,?_,?_,?_,?_,?_⟩
 ·
  simpa [Zak.give] using h2
 ·
  simpa [Zak.give,h.len] using h3
 ·
  simpa [Zak.give] using h4
 ·
  simp[Zak.give,h.len]
 ·
  have:=h.top;simpa [Zak.give] using this
 ·
  rw[tk,if_neg (by omega)];exact h.zero
 ·
  have:=h.pos;simpa [Zak.give] using this
 ·
  intro i hi';rw[tk] at hi';rw[nd]
  by_cases e:i=id
  ·
   rw[if_pos e] at hi';cases hi'
  ·
   rw[if_neg e] at hi' ⊢;exact h.id i hi'
 ·
  simp only[Zak.give,List.length_append,List.length_singleton,List.length_set];omega
 ·
  refine List.nodup_append.2 ⟨h.nodup,by simp,?_⟩;intro x hx y hy e;simp at hy;subst hy;subst e
  have:=(h.free _ hx).2.2;rw[hi] at this;cases this
 ·
  intro i hi';rw[tk];simp only[Zak.give,List.mem_append,List.mem_singleton,List.length_set] at hi' ⊢;rcases hi' with hi'|rfl
  ·
   have:=h.free i hi';refine⟨this.1,this.2.1,?_⟩;split
   ·
    rfl
   ·
    exact this.2.2
  ·
   exact⟨i0,i1,by simp⟩
 ·
  have hc:=h.cnt;have:Zar (p.give id).at_.length (fun i=>if (p.give id).tk i=true then 1 else 0)=Zar p.at_.length (fun i=>if p.tk i=true then 1 else 0)+((if (p.give id).tk id=true then 1 else 0)-(if p.tk id=true then 1 else 0)):=by
   have hl:(p.give id).at_.length=p.at_.length:=by simp[Zak.give]
   rw[hl];refine Zdg (fun i hi=>?_) _ i1;rw[tk,if_neg hi]
  rw[this,tk,if_pos rfl,hi,<- hc];simp[Zak.give];omega
theorem Zp4 (o:Own) (pb:Nat) (p:Zak) (id:Nat) (w:World) (h:Zao o w pb p) (hlt:Zai o w) (hi:p.tk id=true) :
 Calls Tryz.prog 111 #[.pointer (some ⟨pb,0,none⟩),.int .i64 id] w fun x w'=>x=.returned (.int .i64 0)/\∃ o',Zao o' w' pb (p.give id)/\Chg (fun r=>r=.pool\/r=.slots\/r=.taken\/r=.free) o o' w w'/\Zai o' w':=by
 obtain⟨vs,vt,vf,hpb,hs,ht,hff⟩:=h.blk;obtain⟨gs,cs,rfl,hogs,_⟩:=hs.shape h.pos;obtain⟨gt,ct,rfl,hogt,_⟩:=ht.shape (by rw[h.len];exact h.pos);obtain⟨af,cf,rfl,_⟩:=hff.slice;rw[h.len] at hpb ht;obtain⟨c0,c1,c2,c3,c4,f0⟩:=cells5 hpb;obtain⟨i0,i1⟩:=h.tk_lt hi;have i1':(id:Int)<p.at_.length:=by omega
 have htop:=h.top;have hroom:=h.room;obtain⟨n0,n1,n2,n3,n4⟩:=Zao.node hs (k:=id) i1;have ht':=ht;rw[<- h.len] at ht';have t0:=Zao.flag ht' (k:=id) (by rw[h.len];exact i1);have fs0:=hs.frozen;have ft0:=ht.frozen id;have ne:∀ {a b r q},o a=some r->o b=some q->r≠q->a≠b:=fun ha hb hr e=>by subst e;rw[ha] at hb;cases hb;exact hr rfl
 have nps:pb≠gs:=ne h.own hogs (by simp);have npt:pb≠gt:=ne h.own hogt (by simp);have nst:gs≠gt:=ne hogs hogt (by simp);have hmp:=h.many_pos hi;have hmm:=h.many;obtain⟨W2,hW2⟩:∃ W2,W2=(set5 w.drew gs id rn0).setCell ⟨gt,id,none⟩ (.bool false):=⟨_,rfl⟩;have hpb2:W2.heap[pb]?=some (.cells #[.int .i64 p.room,.slice (some ⟨gs,0,none⟩) p.at_.length cs,.slice (some ⟨gt,0,none⟩) p.at_.length ct,.slice af p.free.length cf,.int .i64 p.many] 190 (0,0)):=by
  rw[hW2,Zad (p:=⟨gt,id,none⟩) npt,Zbe nps];exact hpb
 have hs2:RowR o W2 .slots 65 5 (.slice (some ⟨gs,0,none⟩) p.at_.length cs) p.at_.length ((p.at_.set id rn0).flatMap rnV):=by
  have:=(Zh5 hs.drew i1 rn0).setCell_other (p:=⟨gt,id,none⟩) (by rw[hogt];simp) (.bool false);rw[List.length_set] at this;rw[hW2];exact this
 have ht2:RowR o W2 .taken 4 1 (.slice (some ⟨gt,0,none⟩) p.at_.length ct) p.at_.length ((p.taken.set id false).map Value.bool):=by
  have:=(ht.drew.keep (w':=set5 w.drew gs id rn0) (o':=o) (fun g hg=>Zbe (ne hg hogs (by simp))) (fun _ h=>h)).stored id (.bool false);rw[hW2,List.map_set];exact this
 have hf2:RowR o W2 .free 3 1 (.slice af p.free.length cf) p.free.length (p.free.map nat64):=by
  rw[hW2];exact((hff.drew.keep (w':=set5 w.drew gs id rn0) (o':=o) (fun g hg=>Zbe (ne hg hogs (by simp))) (fun _ h=>h)).setCell_other (p:=⟨gt,id,none⟩) (by rw[hogt];simp) (.bool false))
 have hl2:Zai o W2:=by rw[hW2];exact hlt.mono (by simp[set5,World.setCell])
 have hc2:Chg (fun r=>r=.pool\/r=.slots\/r=.taken\/r=.free) o o w W2:=by
  rw[hW2];exact((Zjs (Chg.refl _ _ _).drew hogs (.inr (.inl rfl))).setCell (p:=⟨gt,id,none⟩) hogt (.inr (.inr (.inl rfl))) _)
 have HH:=Hd h;have HI:=Hd hi;have HW2:=Hd hW2;have HPB2:=Hd hpb2;have HS2:=Hd hs2;have HT2:=Hd ht2;have HF2:=Hd hf2;have HL2:=Hd hl2;have HC2:=Hd hc2;have HOP:=Hd h.own;clear hs ht ht' hff h hlt hi hogs hogt hpb ne hW2 hpb2 hs2 ht2 hf2 hl2 hc2 hmm;have HSX:Hid (∀ W:World,(∀ g,g≠gs->W.heap[g]?=w.heap[g]?)->W.cell? ⟨pb,1,none⟩=some (.slice (some ⟨gs,0,none⟩) p.at_.length cs)/\W.cell? ⟨pb,2,none⟩=some (.slice (some ⟨gt,0,none⟩) p.at_.length ct)):=by
  show ∀ _,_
  intro W hW;have a:=fun g k (hg:g≠gs)=>World.cell?_of_block (w:=w) (w':=W) (a:=⟨g,k,none⟩) (hW g hg)
  exact⟨(a pb 1 nps).trans c1,(a pb 2 nps).trans c2⟩
 go_enter Tryz.func111,Tryz.ntmps111
 go_wp2_with (fail);refine(Zgr o pb p id _ HH.out).mono ?_;rintro x w' ⟨rfl,rfl⟩;rw[HI.out];go_upto_region 3 with fail;refine Zan (fun W:World=>W.cell? ⟨pb,1,none⟩=some (.slice (some ⟨gs,0,none⟩) p.at_.length cs)/\W.cell? ⟨pb,2,none⟩=some (.slice (some ⟨gt,0,none⟩) p.at_.length ct)) true 14
  [(0,false),(1,false),(2,false),(3,false),(4,false),(5,false),(6,false),(7,false),(8,false),(9,false),(10,false),(11,false),(12,true),(13,false),(14,true)] (by kernel_rfl) (by kernel_rfl) (HSX.out _ (fun _ _=>rfl)) ?_
 simp only[planned,Zd8]
 iterate 12
  refine Zap rfl ?_;apply Exists.intro;refine⟨fun w' hw=>?_,?_⟩
  ·
   obtain⟨h1,h2⟩:=hw;go_simp;rfl
  simp only[Zag]
 refine Zkt rfl rfl (Zbt (w:=w.drew) fs0 n0 n1 n2 n3 n4 0 0 0 0 0) (HSX.out _ (fun g hg=>Zbe (w:=w.drew) (n:=rn0) (k:=id) hg)) ?_;simp only[Zag]
 iterate 1
  refine Zap rfl ?_;apply Exists.intro;refine⟨fun w' hw=>?_,?_⟩
  ·
   obtain⟨h1,h2⟩:=hw;go_simp;rfl
  simp only[Zag]
 refine Zdd (w':=(set5 w.drew gs id rn0).setCell ⟨gt,id,none⟩ (.bool false)) rfl rfl (Zdy Zz6 ((World.cell?_of_block (w:=w.drew) (w':=set5 w.drew gs id rn0) (a:=⟨gt,id,none⟩) (Zbe (Ne.symm nst))).trans t0) ((World.frozen?_of_block (w:=w.drew) (w':=set5 w.drew gs id rn0) (a:=⟨gt,id,none⟩) (Zbe (Ne.symm nst))).trans ft0) rfl rfl) ?_;rw[<- HW2.out];simp only[Zag];clear c0 c1 c2 c3 c4 f0 n0 n1 n2 n3 n4 t0 fs0 ft0 HSX;obtain⟨c0,c1,c2,c3,c4,f0⟩:=cells5 HPB2.out;have lpb:pb<W2.heap.size:=Zab c0;have hfl:p.free.length<1000000000:=by have:=HH.out.many;omega
 go_upto_region 4 with fail
 go_cut [4] (fun s4 wx=>s4=.int .i64 0/\∃ gf kf o1,wx.heap[pb]?=some (.cells #[.int .i64 p.room,.slice (some ⟨gs,0,none⟩) p.at_.length cs,.slice (some ⟨gt,0,none⟩) p.at_.length ct,.slice (some ⟨gf,0,none⟩) (p.free.length+1) kf,.int .i64 p.many] 190 (0,0)) /\
  RowR o1 wx .slots 65 5 (.slice (some ⟨gs,0,none⟩) p.at_.length cs) p.at_.length ((p.at_.set id rn0).flatMap rnV)/\RowR o1 wx .taken 4 1 (.slice (some ⟨gt,0,none⟩) p.at_.length ct) p.at_.length ((p.taken.set id false).map Value.bool) /\
  RowR o1 wx .free 3 1 (.slice (some ⟨gf,0,none⟩) (p.free.length+1) kf) (p.free.length+1) ((p.free++[id]).map nat64)/\o1 pb=some .pool/\Chg (fun r=>r=.pool\/r=.slots\/r=.taken\/r=.free) o o1 w wx/\Zai o1 wx)
 case first =>
  go_wp2_with (at_builtin
               refine Zdi 22 3 1 8 _ Tryz.underlying22 Zii rfl (by decide) rfl _ _ rfl rfl rfl rfl (by simp) rfl (fun u hu=>by simp at hu;subst hu;rfl) HF2.out HL2.out hfl (by decide) ?_;intro g1 k1 w1 o1 hr1 hc1 hl1;have hpb1:=(hc1.same HL2.out HOP.out (by simp)).trans HPB2.out;obtain⟨q0,q1,q2,q3,q4,fq⟩:=cells5 hpb1;have HPB1:=Hd hpb1;have HR1:=Hd hr1;have HC1:=Hd hc1;have HL1:=Hd hl1;clear hr1 hc1 hl1 hpb1 c0 c1 c2 c3 c4 f0)
  go_meet;have hop:=HC1.out.ext _ _ HOP.out;refine⟨rfl,g1,k1,o1,Zae HPB1.out _,(HS2.out.chg HC1.out HL2.out (by simp)).setCell_other (by rw[hop];simp) _,(HT2.out.chg HC1.out HL2.out (by simp)).setCell_other (by rw[hop];simp) _,?_,hop,(HC2.out.trans (HC1.out.mono fun r e=>.inr (.inr (.inr e)))).setCell (p:=⟨pb,3,none⟩) hop (.inl rfl) _,HL1.out.mono (by simp[World.setCell])⟩;rw[List.map_append];exact HR1.out.setCell_other (by rw[hop];simp) _
 case rest =>
  obtain⟨rfl,gf,kf,o1,hpb3,hs3,ht3,hf3,hop3,hc3,hl3⟩:=hcut;clear c0 c1 c2 c3 c4 f0 lpb
  rename World=>w3
  obtain⟨c0,c1,c2,c3,c4,f0⟩:=cells5 hpb3;have hmx:(p.many:Int)<9223372036854775807:=by have:=HH.out.many;omega
  have hmp':(1:Int)<=p.many:=by omega
  have HP3:=Hd hpb3;have HS3:=Hd hs3;have HT3:=Hd ht3;have HF3:=Hd hf3;have HO3:=Hd hop3;have HC3:=Hd hc3;have HL3:=Hd hl3;clear hpb3 hs3 ht3 hf3 hop3 hc3 hl3;go_wp2_with fail;go_ret;refine⟨rfl,o1,HH.out.toGive HI.out HO3.out ?_ (HS3.out.setCell_other (by rw[HO3.out];simp) _) (HT3.out.setCell_other (by rw[HO3.out];simp) _) (HF3.out.setCell_other (by rw[HO3.out];simp) _),HC3.out.setCell (p:=⟨pb,4,none⟩) HO3.out (.inl rfl) _,HL3.out.mono (by simp[World.setCell])⟩;rw[show ((p.many-1:Nat):Int)=(p.many:Int)-1 by omega];exact Zae HP3.out _
open Go.RowKit
def InU (x:Int):Prop:=0<=x/\x<18446744073709551616
theorem Zsh (x:Int):InU (IntKind.u64.wrap x):=by
 rw[IntKind.wrap_u64];unfold InU;omega
theorem Znd (op:BinOp) (x y:Int):InU (bits op .u64 x y):=by
 unfold bits;exact Zsh _
def keyV (op:Int) (a b c:Nat):Value:=.agg #[.int .i64 op,.int .i64 a,.int .i64 b,.int .i64 c]
theorem Zp3 (mb ge cap:Nat) (op:Int) (a b c:Nat) (w:World) (hc:w.cell? ⟨mb,1,none⟩=some (.slice (some ⟨ge,0,none⟩) 4096 cap)) :
 Calls Tryz.prog 130 #[.pointer (some ⟨mb,0,none⟩),keyV op a b c] w fun x w'=>∃ i,i<4096/\x=.returned (.pointer (some ⟨ge,i*6,none⟩))/\Below w.heap.size w w':=by
 have lmb:mb<w.heap.size:=Zab hc;have i0:∀ w,(Instr.index 206 (.agg #[.int .i64 a,.int .i64 b,.int .i64 c]) (.int .i64 0)).run Tryz.prog w=.ok (.int .i64 a) w:=fun _=>by kernel_rfl
 have i1:∀ w,(Instr.index 206 (.agg #[.int .i64 a,.int .i64 b,.int .i64 c]) (.int .i64 1)).run Tryz.prog w=.ok (.int .i64 b) w:=fun _=>by kernel_rfl
 have i2:∀ w,(Instr.index 206 (.agg #[.int .i64 a,.int .i64 b,.int .i64 c]) (.int .i64 2)).run Tryz.prog w=.ok (.int .i64 c) w:=fun _=>by kernel_rfl
 unfold keyV
 go_enter Tryz.func130,Tryz.ntmps130
 go_wp2_with fail
 go_loop [5,13] (fun n i=>∃ (k:Nat) (X:Int),k<=3/\InU X/\n=.int .u64 X/\i=.int .i64 k) (fun _ i=>3-(intOf i).toNat)
 case atStart=>exact⟨0,_,by omega,Zsh _,rfl,rfl⟩
 case round =>
  obtain⟨k,X,hk,hX,rfl,rfl⟩:=hrel;have HX:=Hd hX;clear hX
  by_cases hlt:k<3
  ·
   have hk3:k=0\/k=1\/k=2:=by omega
   rcases hk3 with rfl|rfl|rfl
   ·
    go_wp2_with fail;refine⟨⟨1,_,by omega,Znd _ _ _,rfl,rfl⟩,by simp[intOf]⟩
   ·
    go_wp2_with fail;refine⟨⟨2,_,by omega,Znd _ _ _,rfl,rfl⟩,by simp[intOf]⟩
   ·
    go_wp2_with fail;refine⟨⟨3,_,by omega,Znd _ _ _,rfl,rfl⟩,by simp[intOf]⟩
  ·
   obtain rfl:k=3:=by omega
   obtain⟨i,hi,he⟩:∃ i:Nat,i<4096/\X.tmod 4096=(i:Int):=by
    obtain⟨h0,_⟩:=HX.out;rw[Int.tmod_eq_emod_of_nonneg h0];exact⟨(X%4096).toNat,by omega,by omega⟩
   have hi':(i:Int)<4096:=by omega
   go_wp2_with fail
   go_quiet (fail)
   go_wp2_with fail;go_ret;exact⟨i,hi,rfl,Zd1 w _ _⟩
open Go.RowKit
set_option linter.unusedSectionVars false
section
variable {P:Program} {κ:Type} [DecidableEq κ]
def Zbw (k:κ):List (κ×Value)->Nat->Option (Nat×Value)
 | [],_=>none
 | p::l,i=>if p.1=k then some (i,p.2) else Zbw k l (i+1)
def getL (l:List (κ×Value)) (k:κ):Option Value:=(Zbw k l 0).map (·.2)
structure Zld (P:Program) (K:TypeId) (enc:κ->Value):Prop where
 check:∀ (w:World) (em:Bool) (k:κ),(Instr.checkKey em 10000 K (enc k)).run P w=.ok () w
 find:∀ (w:World) (k:κ) (l:List (κ×Value)) (es:List MapEntry),es.map (fun e=>(e.key,e.val))=l.map (fun p=>(enc p.1,p.2)) ->
  (Instr.findKey K (enc k) es).run P w=.ok (Zbw k l 0) w
 stays:∀ (w:World) (k:κ),(Instr.keyThatStays (enc k) (enc k)).run P w=.ok (enc k) w
structure Zaz (w:World) (b:Nat) (enc:κ->Value) (l:List (κ×Value)):Prop where
 ex:∃ es clock,w.heap[b]?=some (.map es clock)/\es.toList.map (fun e=>(e.key,e.val))=l.map (fun p=>(enc p.1,p.2)) /\
  (∀ e∈es.toList,e.born<clock)/\(es.toList.map (·.born)).Nodup
 nodup:(l.map Prod.fst).Nodup
theorem Zaz.lt {w:World} {b:Nat} {enc:κ->Value} {l:List (κ×Value)} (h:Zaz w b enc l):b<w.heap.size:=by
 obtain⟨es,c,hb,_⟩:=h.ex;exact(Array.getElem?_eq_some_iff.1 hb).1
theorem Zaz.keep {row:Option Nat} {w w':World} {b:Nat} {enc:κ->Value} {l:List (κ×Value)} (h:Zaz w b enc l) (hk:Zes row w w') (hne:some b≠row):Zaz w' b enc l:=by
 obtain⟨es,c,hb,rest⟩:=h.ex;exact⟨⟨es,c,by rw[hk b h.lt hne];exact hb,rest⟩,h.nodup⟩
theorem Zjh {w w':World} (h:Below w.heap.size w w') (row:Option Nat):Zes row w w':=fun k hk _=>h.block k hk
theorem Zaz.below {w w':World} {b:Nat} {enc:κ->Value} {l:List (κ×Value)} (h:Zaz w b enc l) (hb:Below w.heap.size w w'):Zaz w' b enc l :=
 h.keep (Zjh hb none) (by simp)
theorem Zd7 (w:World) (enc:κ->Value):Zaz (w.alloc (.map #[] 0)) w.heap.size enc [] :=
 ⟨⟨#[],0,heap_alloc_new w _,by simp,by simp,by simp⟩,by simp⟩
theorem Zcb {w:World} {b:Nat} {es:Array MapEntry} {c:Nat} (h:w.heap[b]?=some (.map es c)):(getObj b).run P w=.ok (.map es c) w:=by
 simp[getObj,Sem.run,h]
theorem Zcn {k:κ} {l:List (κ×Value)} {j:Nat} {v:Value}:∀ {i:Nat},Zbw k l i=some (j,v)->∃ n,j=i+n/\l[n]?=some (k,v):=by
 induction l with
 | nil=>intro i h;cases h
 | cons p l ih =>
   intro i h;unfold Zbw at h;split at h
   ·
    rename_i he
    simp only[Option.some.injEq,Prod.mk.injEq] at h;obtain⟨rfl,rfl⟩:=h;exact⟨0,rfl,by simp[<- he]⟩
   ·
    obtain⟨n,h1,h2⟩:=ih h;exact⟨n+1,by omega,by simpa using h2⟩
theorem Zgo {k:κ} {l:List (κ×Value)}:∀ {i:Nat},Zbw k l i=none->∀ p∈l,p.1≠k:=by
 induction l with
 | nil=>intro i _ p hp;cases hp
 | cons q l ih =>
   intro i h p hp;unfold Zbw at h;split at h
   ·
    cases h
   ·
    rename_i he
    rcases List.mem_cons.1 hp with rfl|hp
    ·
     exact he
    ·
     exact ih h p hp
theorem Zaz.lookup {w:World} {b:Nat} {K T E:TypeId} {enc:κ->Value} {l:List (κ×Value)} (h:Zaz w b enc l) (L:Zld P K enc) (hT:P.underlying T=some (.map K E)) {z:Value}
 (hz:∀ w,(zeroValue E).run P w=.ok z w) (k:κ) (ok:Bool) :
 (Instr.lookup T (.map (some b)) (enc k) ok).run P w=.ok (if ok then .tuple #[(getL l k).getD z,.bool (getL l k).isSome] else (getL l k).getD z) w:=by
 obtain⟨es,c,hb,hm,_⟩:=h.ex;simp only[Instr.lookup,Sem.run_bind,run_underlying hT,Result.andThen_ok,Zcb hb,Sem.run_pure,L.check,L.find w k l es.toList hm];unfold getL;cases hf:Zbw k l 0 with
 | none=>simp[hz,Result.andThen]
 | some p=>simp
def putL (k:κ) (v:Value) (l:List (κ×Value)):List (κ×Value) :=
 match Zbw k l 0 with
 | some (j,_)=>l.set j (k,v)
 | none=>l++[(k,v)]
def delL (k:κ) (l:List (κ×Value)):List (κ×Value) :=
 match Zbw k l 0 with
 | some (j,_)=>l.eraseIdx j
 | none=>l
theorem Zcg {l:List (κ×Value)} (hn:(l.map Prod.fst).Nodup) {k:κ} {v:Value} (h:(k,v)∈l):getL l k=some v:=by
 unfold getL;cases hf:Zbw k l 0 with
 | none=>exact(Zgo hf _ h rfl).elim
 | some p =>
   obtain⟨j,u⟩:=p;obtain⟨n,_,h2⟩:=Zcn hf;obtain⟨m,hm,he⟩:=List.mem_iff_getElem.1 h;have hnl:n<l.length:=by
    rcases Nat.lt_or_ge n l.length with h'|h'
    ·
     exact h'
    ·
     rw[List.getElem?_eq_none h'] at h2;cases h2
   rw[List.getElem?_eq_getElem hnl] at h2;have h3:l[n]=(k,u):=by simpa using h2
   have h4:n=m:=by
    apply(List.getElem_inj (h₀:=by simpa using hnl) (h₁:=by simpa using hm) hn).1;simp[h3,he]
   subst h4;rw[h3] at he;simp only[Prod.mk.injEq,true_and] at he;simp[he]
theorem Zc2 {l:List (κ×Value)} {k:κ} {v:Value} (h:getL l k=some v):(k,v)∈l:=by
 unfold getL at h;cases hf:Zbw k l 0 with
 | none=>rw[hf] at h;cases h
 | some p =>
   obtain⟨j,u⟩:=p;obtain⟨n,_,h2⟩:=Zcn hf;rw[hf] at h;simp only[Option.map_some,Option.some.injEq] at h;subst h;exact List.mem_of_getElem? h2
theorem Zcu {l:List (κ×Value)} {k:κ}:getL l k=none↔∀ p∈l,p.1≠k:=by
 constructor
 ·
  intro h;unfold getL at h;cases hf:Zbw k l 0 with
  | none=>exact Zgo hf
  | some p=>rw[hf] at h;cases h
 ·
  intro h;cases hg:getL l k with
  | none=>rfl
  | some v=>exact(h _ (Zc2 hg) rfl).elim
theorem Zsf {l:List (κ×Value)} (hn:(l.map Prod.fst).Nodup) {k:κ} {o:Option Value} (h1:∀ v,o=some v->(k,v)∈l) (h2:o=none->∀ p∈l,p.1≠k):getL l k=o:=by
 cases o with
 | none=>exact Zcu.2 (h2 rfl)
 | some v=>exact Zcg hn (h1 v rfl)
theorem Zz5 {l:List (κ×Value)} {n:Nat} {k:κ} {u v:Value} (h:l[n]?=some (k,u)):(l.set n (k,v)).map Prod.fst=l.map Prod.fst:=by
 have hn:n<l.length:=by
  rcases Nat.lt_or_ge n l.length with h'|h'
  ·
   exact h'
  ·
   rw[List.getElem?_eq_none h'] at h;cases h
 apply List.ext_getElem (by simp);intro i h1 h2;simp only[List.getElem_map,List.getElem_set];split
 ·
  rename_i e;subst e
  rw[List.getElem?_eq_getElem hn] at h;have:l[n]=(k,u):=by simpa using h
  simp[this]
 ·
  rfl
theorem Zgs {l:List (κ×Value)} (hn:(l.map Prod.fst).Nodup) (k:κ) (v:Value):((putL k v l).map Prod.fst).Nodup:=by
 unfold putL;cases hf:Zbw k l 0 with
 | none =>
   simp only[List.map_append,List.map_cons,List.map_nil];refine List.nodup_append.2 ⟨hn,by simp,?_⟩;intro a ha b hb;obtain⟨p,hp,rfl⟩:=List.mem_map.1 ha;simp at hb;subst hb
   exact Zgo hf p hp
 | some p =>
   obtain⟨j,u⟩:=p;obtain⟨n,h1,h2⟩:=Zcn hf;simp only[Nat.zero_add] at h1;subst h1
   rw[Zz5 h2];exact hn
theorem Zki {l:List (κ×Value)} (hn:(l.map Prod.fst).Nodup) (k k':κ) (v:Value):getL (putL k v l) k'=if k'=k then some v else getL l k':=by
 refine Zsf (Zgs hn k v) ?_ ?_
 ·
  intro u hu;unfold putL;cases hf:Zbw k l 0 with
  | none =>
    dsimp only;split at hu
    ·
     rename_i e;subst e;cases hu;simp
    ·
     exact List.mem_append.2 (.inl (Zc2 hu))
  | some p =>
    obtain⟨j,x⟩:=p;obtain⟨n,h1,h2⟩:=Zcn hf;simp only[Nat.zero_add] at h1;subst h1
    dsimp only;have hj:j<l.length:=by
     rcases Nat.lt_or_ge j l.length with h'|h'
     ·
      exact h'
     ·
      rw[List.getElem?_eq_none h'] at h2;cases h2
    split at hu
    ·
     rename_i e;subst e;cases hu
     exact List.mem_iff_getElem.2 ⟨j,by simpa using hj,by simp⟩
    ·
     rename_i e
     obtain⟨m,hm,he⟩:=List.mem_iff_getElem.1 (Zc2 hu);refine List.mem_iff_getElem.2 ⟨m,by simpa using hm,?_⟩;rw[List.getElem_set_ne]
     ·
      exact he
     ·
      rintro rfl;rw[List.getElem?_eq_getElem hj] at h2;have h3:l[j]=(k,x):=by simpa using h2
      rw[h3] at he;simp only[Prod.mk.injEq] at he;exact e he.1.symm
 ·
  intro ho p hp e;split at ho
  ·
   cases ho
  ·
   rename_i hne
   have hno:=Zcu.1 ho;unfold putL at hp;cases hf:Zbw k l 0 with
   | none =>
     rw[hf] at hp;rcases List.mem_append.1 hp with hp|hp
     ·
      exact hno p hp e
     ·
      simp at hp;subst hp;exact hne e.symm
   | some q =>
     obtain⟨j,x⟩:=q;rw[hf] at hp;rcases List.mem_or_eq_of_mem_set hp with hp|rfl
     ·
      exact hno p hp e
     ·
      exact hne e.symm
theorem Zaz.update {w:World} {b:Nat} {K T E:TypeId} {enc:κ->Value} {l:List (κ×Value)} (h:Zaz w b enc l) (L:Zld P K enc) (hT:P.underlying T=some (.map K E)) (k:κ) (v:Value) :
 ∃ w',(Instr.mapUpdate T (.map (some b)) (enc k) v).run P w=.ok () w'/\Zaz w' b enc (putL k v l)/\w.grownBy w' (some b):=by
 obtain⟨es,c,hb,hm,hborn,hnd⟩:=h.ex;have hlt:=h.lt;have hlen:es.toList.length=l.length:=by have:=congrArg List.length hm;simpa using this
 have hset:∀ o:Obj,(setObj b o).run P w=.ok () { w with heap:=w.heap.setIfInBounds b o }:=by
  intro o;simp[setObj,Sem.run,hb]
 have hgrown:∀ o:Obj,w.grownBy { w with heap:=w.heap.setIfInBounds b o } (some b):=by
  intro o;refine⟨rfl,rfl,rfl,by simp,fun i hi hne=>?_⟩;have:b≠i:=by rintro rfl;exact hne rfl
  simp[this]
 cases hf:Zbw k l 0 with
 | none =>
   refine⟨{ w with heap:=w.heap.setIfInBounds b (.map (es.push { key:=enc k,val:=v,born:=c }) (c+1)) },?_,?_,hgrown _⟩
   ·
    simp only[Instr.mapUpdate,Sem.run_bind,run_underlying hT,Result.andThen_ok,Zcb hb,L.check,L.find w k l es.toList hm,hf,hset]
   ·
    refine⟨⟨es.push { key:=enc k,val:=v,born:=c },c+1,by simp[hlt],?_,?_,?_⟩,?_⟩
    ·
     unfold putL;rw[hf];simp[hm]
    ·
     intro e he;rw[Array.toList_push,List.mem_append] at he;rcases he with he|he
     ·
      have:=hborn e he;omega
     ·
      simp at he;subst he;simp
    ·
     rw[Array.toList_push,List.map_append];refine List.nodup_append.2 ⟨hnd,by simp,?_⟩;intro a ha b' hb';obtain⟨e,he,rfl⟩:=List.mem_map.1 ha;simp at hb';subst hb'
     have:=hborn e he;omega
    ·
     exact Zgs h.nodup k v
 | some p =>
   obtain⟨j,u⟩:=p;obtain⟨n,h1,h2⟩:=Zcn hf;simp only[Nat.zero_add] at h1;subst h1
   have hj:j<l.length:=by
    rcases Nat.lt_or_ge j l.length with h'|h'
    ·
     exact h'
    ·
     rw[List.getElem?_eq_none h'] at h2;cases h2
   have hje:j<es.size:=by have:es.toList.length=es.size:=rfl;omega
   have hkey:es[j].key=enc k:=by
    have h3:=congrArg (fun x=>x[j]?) hm;simp only[List.getElem?_map,h2,Option.map_some] at h3;have h4:es.toList[j]?=some es[j]:=by simp[hje]
    rw[h4] at h3;simp only[Option.map_some,Option.some.injEq,Prod.mk.injEq] at h3;exact h3.1
   have hst:(Instr.keyThatStays (((es[j]?).map (·.key)).getD (enc k)) (enc k)).run P w=.ok (enc k) w:=by
    simp only[Array.getElem?_eq_getElem hje,Option.map_some,Option.getD_some,hkey];exact L.stays w k
   refine⟨{ w with heap:=w.heap.setIfInBounds b (.map (es.modify j fun e=>{ e with key:=enc k,val:=v }) c) },?_,?_,hgrown _⟩
   ·
    simp only[Instr.mapUpdate,Sem.run_bind,run_underlying hT,Result.andThen_ok,Zcb hb,L.check,L.find w k l es.toList hm,hf,hst,hset]
   ·
    have hml:(es.modify j fun e=>{ e with key:=enc k,val:=v }).toList=es.toList.set j { es[j] with key:=enc k,val:=v }:=by
     apply List.ext_getElem (by simp);intro i hi1 hi2;simp only[Array.getElem_toList,Array.getElem_modify,List.getElem_set];split
     ·
      rename_i e;subst e;rfl
     ·
      rfl
    refine⟨⟨es.modify j fun e=>{ e with key:=enc k,val:=v },c,by simp[hlt],?_,?_,?_⟩,Zgs h.nodup k v⟩
    ·
     unfold putL;rw[hf,hml];simp[List.map_set,hm]
    ·
     intro e he;rw[hml] at he;rcases List.mem_or_eq_of_mem_set he with he|rfl
     ·
      exact hborn e he
     ·
      exact hborn es[j] (by simp)
    ·
     have:((es.modify j fun e=>{ e with key:=enc k,val:=v }).toList.map (·.born))=es.toList.map (·.born):=by
      rw[hml,List.map_set];apply List.ext_getElem (by simp);intro i hi1 hi2;simp only[List.getElem_set,List.getElem_map,Array.getElem_toList];split
      ·
       rename_i e;subst e;rfl
      ·
       rfl
     rw[this];exact hnd
theorem Zf8 {α β:Type} (f:α->β):∀ (l:List α) (j:Nat),(l.eraseIdx j).map f=(l.map f).eraseIdx j
 | [],_=>rfl
 | _::_,0=>rfl
 | x::l,j+1=>by simp[Zf8 f l j]
theorem Zie {l:List (κ×Value)} (hn:(l.map Prod.fst).Nodup) (k:κ):((delL k l).map Prod.fst).Nodup:=by
 unfold delL;split
 ·
  exact hn.sublist ((List.eraseIdx_sublist _ _).map _)
 ·
  exact hn
theorem Zwk {l:List (κ×Value)} (hn:(l.map Prod.fst).Nodup) (k k':κ):getL (delL k l) k'=if k'=k then none else getL l k':=by
 refine Zsf (Zie hn k) ?_ ?_
 ·
  intro u hu;split at hu
  ·
   cases hu
  ·
   rename_i hne
   have hm:=Zc2 hu;unfold delL;cases hf:Zbw k l 0 with
   | none=>exact hm
   | some p =>
     obtain⟨j,x⟩:=p;obtain⟨n,h1,h2⟩:=Zcn hf;simp only[Nat.zero_add] at h1;subst h1
     dsimp only;rw[List.mem_eraseIdx_iff_getElem?];obtain⟨m,hm2,he⟩:=List.mem_iff_getElem.1 hm;refine⟨m,?_,by rw[List.getElem?_eq_getElem hm2,he]⟩;rintro rfl;rw[List.getElem?_eq_getElem hm2,he] at h2;simp only[Option.some.injEq,Prod.mk.injEq] at h2;exact hne h2.1
 ·
  intro ho p hp e;unfold delL at hp;cases hf:Zbw k l 0 with
  | none =>
    rw[hf] at hp;split at ho
    ·
     rename_i h;subst h;exact Zgo hf p hp e
    ·
     exact Zcu.1 ho p hp e
  | some q =>
    obtain⟨j,x⟩:=q;rw[hf] at hp;dsimp only at hp;obtain⟨n,h1,h2⟩:=Zcn hf;simp only[Nat.zero_add] at h1;subst h1
    obtain⟨m,hmj,hm⟩:=List.mem_eraseIdx_iff_getElem?.1 hp;split at ho
    ·
     rename_i h;subst h
     have hj:j<l.length:=by
      rcases Nat.lt_or_ge j l.length with h'|h'
      ·
       exact h'
      ·
       rw[List.getElem?_eq_none h'] at h2;cases h2
     have hml:m<l.length:=by
      rcases Nat.lt_or_ge m l.length with h'|h'
      ·
       exact h'
      ·
       rw[List.getElem?_eq_none h'] at hm;cases hm
     rw[List.getElem?_eq_getElem hj] at h2;rw[List.getElem?_eq_getElem hml] at hm;have:m=j:=by
      apply(List.getElem_inj (h₀:=by simpa using hml) (h₁:=by simpa using hj) hn).1;simp only[Option.some.injEq] at h2 hm;simp[h2,hm,e]
     exact hmj this
    ·
     exact Zcu.1 ho p (List.mem_of_getElem? hm) e
theorem Zaz.delete {w:World} {b:Nat} {K T E:TypeId} {enc:κ->Value} {l:List (κ×Value)} (h:Zaz w b enc l) (L:Zld P K enc) (hT:P.underlying T=some (.map K E)) (k:κ) (ty:TypeId) :
 ∃ w',(Builtin.delete_ #[T,K] ty #[.map (some b),enc k]).run P w=.ok (.tuple #[]) w'/\Zaz w' b enc (delL k l)/\w.grownBy w' (some b):=by
 obtain⟨es,c,hb,hm,hborn,hnd⟩:=h.ex;have hlt:=h.lt;have hlen:es.toList.length=l.length:=by have:=congrArg List.length hm;simpa using this
 have hset:∀ o:Obj,(setObj b o).run P w=.ok () { w with heap:=w.heap.setIfInBounds b o }:=by
  intro o;simp[setObj,Sem.run,hb]
 have hgrown:∀ o:Obj,w.grownBy { w with heap:=w.heap.setIfInBounds b o } (some b):=by
  intro o;refine⟨rfl,rfl,rfl,by simp,fun i hi hne=>?_⟩;have:b≠i:=by rintro rfl;exact hne rfl
  simp[this]
 cases hf:Zbw k l 0 with
 | none =>
   refine⟨{ w with heap:=w.heap.setIfInBounds b (.map es c) },?_,?_,hgrown _⟩
   ·
    simp[Builtin.delete_,run_underlying hT,Zcb hb,L.check,L.find w k l es.toList hm,hf,hset]
   ·
    refine⟨⟨es,c,by simp[hlt],?_,hborn,hnd⟩,Zie h.nodup k⟩;unfold delL;rw[hf];exact hm
 | some p =>
   obtain⟨j,u⟩:=p;obtain⟨n,h1,h2⟩:=Zcn hf;simp only[Nat.zero_add] at h1;subst h1
   have hj:j<l.length:=by
    rcases Nat.lt_or_ge j l.length with h'|h'
    ·
     exact h'
    ·
     rw[List.getElem?_eq_none h'] at h2;cases h2
   have hje:j<es.size:=by have:es.toList.length=es.size:=rfl;omega
   refine⟨{ w with heap:=w.heap.setIfInBounds b (.map (es.eraseIdxIfInBounds j) c) },?_,?_,hgrown _⟩
   ·
    simp[Builtin.delete_,run_underlying hT,Zcb hb,L.check,L.find w k l es.toList hm,hf,hset]
   ·
    have hml:(es.eraseIdxIfInBounds j).toList=es.toList.eraseIdx j:=by simp[Array.eraseIdxIfInBounds,hje]
    refine⟨⟨es.eraseIdxIfInBounds j,c,by simp[hlt],?_,?_,?_⟩,Zie h.nodup k⟩
    ·
     unfold delL;rw[hf,hml];rw[Zf8,Zf8,hm]
    ·
     intro e he;rw[hml] at he;exact hborn e (List.mem_of_mem_eraseIdx he)
    ·
     rw[hml];exact hnd.sublist ((List.eraseIdx_sublist _ _).map _)
theorem Zaz.size {w:World} {b:Nat} {K T E:TypeId} {enc:κ->Value} {l:List (κ×Value)} (h:Zaz w b enc l) (hT:P.underlying T=some (.map K E)) (ty:TypeId) :
 (Builtin.len_ #[T] ty #[.map (some b)]).run P w=.ok (.int .i64 l.length) w:=by
 obtain⟨es,c,hb,hm,_⟩:=h.ex;have hlen:es.toList.length=l.length:=by have:=congrArg List.length hm;simpa using this
 have:es.size=l.length:=hlen;simp[Builtin.len_,run_underlying hT,Zcb hb,goInt,this]
theorem Zkl {K:TypeId} (hK:P.underlying K=some (.int .i64)):Zld P K (Value.int .i64) where
 check w em k:=MapKept.run_checkKey hK (by simp[MapKept.IsKey]) em 9999
 find w k l es h:=by
  have key:∀ (es:List MapEntry) (l:List (Int×Value)) (i:Nat),es.map (fun e=>(e.key,e.val))=l.map (fun p=>(Value.int .i64 p.1,p.2))->Instr.findNow (.int .i64) (.int .i64 k) es i=some (Zbw k l i):=by
   intro es
   induction es with
   | nil=>intro l i h;cases l with
     | nil=>rfl
     | cons p l=>simp at h
   | cons e es ih =>
     intro l i h;cases l with
     | nil=>simp at h
     | cons p l =>
       simp only[List.map_cons,List.cons.injEq,Prod.mk.injEq] at h;obtain⟨⟨h1,h2⟩,h3⟩:=h;simp only[Instr.findNow,h1,Instr.sameNow,if_true,Zbw]
       by_cases e1:p.1=k
       ·
        simp[e1,h2]
       ·
        have h5:(k == p.1)=false:=by simpa using(fun e:k=p.1=>e1 e.symm)
        simp[e1,h5,ih l (i+1) h3]
  simp[Instr.findKey,run_underlying hK,key es l 0 h]
 stays w k:=by simp[Instr.keyThatStays,Instr.sameBits]
theorem Zww {K:TypeId} {d:TypeDesc} {enc:κ->Value} (hK:P.underlying K=some d) (hd:∀ a b,Instr.sameNow d (enc a) (enc b)=none)
 (heq:∀ (w:World) a b,(Op.equal K (enc a) (enc b)).run P w=.ok (decide (a=b)) w)
 (hcheck:∀ (w:World) (em:Bool) (k:κ),(Instr.checkKey em 10000 K (enc k)).run P w=.ok () w)
 (hstays:∀ (w:World) (k:κ),(Instr.keyThatStays (enc k) (enc k)).run P w=.ok (enc k) w):Zld P K enc where
 check:=hcheck
 stays:=hstays
 find w k l es h:=by
  have key:∀ (es:List MapEntry) (l:List (κ×Value)) (i:Nat),es.map (fun e=>(e.key,e.val))=l.map (fun p=>(enc p.1,p.2))->(Instr.findAsking K (enc k) es i).run P w=.ok (Zbw k l i) w:=by
   intro es
   induction es with
   | nil=>intro l i h;cases l with
     | nil=>rfl
     | cons p l=>simp at h
   | cons e es ih =>
     intro l i h;cases l with
     | nil=>simp at h
     | cons p l =>
       simp only[List.map_cons,List.cons.injEq,Prod.mk.injEq] at h;obtain⟨⟨h1,h2⟩,h3⟩:=h;simp only[Instr.findAsking,Sem.run_bind,h1,heq,Result.andThen_ok,Zbw]
       by_cases e1:k=p.1
       ·
        have e2:p.1=k:=e1.symm;simp[e1,h2]
       ·
        have e2:¬ p.1=k:=fun e=>e1 e.symm
        simp[e1,e2,ih l (i+1) h3]
  cases es with
  | nil =>
    cases l with
    | nil=>simp[Instr.findKey,run_underlying hK,Instr.findNow,Zbw]
    | cons p l=>simp at h
  | cons e es =>
    cases l with
    | nil=>simp at h
    | cons p l =>
      have h':=h;simp only[List.map_cons,List.cons.injEq,Prod.mk.injEq] at h';have hn:Instr.findNow d (enc k) (e::es) 0=none:=by simp[Instr.findNow,h'.1.1,hd]
      simp[Instr.findKey,run_underlying hK,hn,key _ _ 0 h]
theorem Zg5 {ops:Array Oper} {rest:List Oper} {o:Oper} {a:Act} {Q:Exit->Act->World->Prop} {w:World} {b:Nat} {K T E:TypeId} {enc:κ->Value} {l:List (κ×Value)}
 (hg:o.guard=none) (m x y:Operand) (hop:o.op=Op.mapUpdate T m x y) (L:Zld P K enc) (hT:P.underlying T=some (.map K E))
 (k:κ) (v:Value) (hm:a.eval m=.map (some b)) (hx:a.eval x=enc k) (hy:a.eval y=v) (h:Zaz w b enc l)
 (hK:∀ w',Zaz w' b enc (putL k v l)->w.grownBy w' (some b)->wpList P ops Q rest (a.put o.dst undef) w'):wpList P ops Q (o::rest) a w:=by
 refine wpList_plain hg fun K' hK'=>?_
 obtain⟨w',hr,h1,h2⟩:=h.update L hT k v;unfold Oper.wp;simp[execOp,hop,hm,hx,hy,hr,Result.andThen];exact hK' _ _ (hK w' h1 h2)
end
open Go.RowKit
open Go.Maps
theorem Zn7:(Tryz.prog.info? 83).map (fun i=>i.size)=some 1:=by kernel_rfl
def encE (q:Nat×Nat):Value:=.agg #[.int .i64 q.1,.int .i64 q.2]
theorem Zen (w:World) {T:TypeId} (hT:Tryz.prog.underlying T=some (.int .i64)) (xs:Array Value) (i:Nat) (v:Value) (h:xs[i]?=some v):(part T xs i).run Tryz.prog w=.ok v w:=by
 simp[part,isAgg,run_underlying hT,h]
theorem ckE (w:World) (em:Bool) (k:Nat×Nat):(Instr.checkKey em 10000 205 (encE k)).run Tryz.prog w=.ok () w:=by
 have h:=fun(x:Int)=>MapKept.run_checkKey (P:=Tryz.prog) (w:=w) (kt:=83) (k:=.int .i64 x) Tryz.underlying83 (by simp[MapKept.IsKey]) em 9998
 have s:=Zn7;cases hi:Tryz.prog.info? 83 with
 | none=>rw[hi] at s;cases s
 | some i =>
   rw[hi] at s;simp only[Option.map_some,Option.some.injEq] at s;have hs:=run_sizeOf w hi;rw[show Tryz.prog.cellsOf 83=1 by kernel_rfl] at hs;have p0:=Zen w Tryz.underlying83 #[.int .i64 k.1,.int .i64 k.2] 0 _ rfl;have p1:=Zen w Tryz.underlying83 #[.int .i64 k.1,.int .i64 k.2] 1 _ rfl;unfold Instr.checkKey encE;simp only[Sem.run_bind,run_underlying Tryz.underlying205,Result.andThen_ok];simp[hs,List.range',p0,p1,h]
theorem eqE (w:World) (a b:Nat×Nat):(Op.equal 205 (encE a) (encE b)).run Tryz.prog w=.ok (decide (a=b)) w:=by
 have hq:=fun(x y:Int)=>run_equalIn_int (P:=Tryz.prog) w 9998 83 .i64 .i64 x y Tryz.underlying83
 have s:=Zn7;cases hi:Tryz.prog.info? 83 with
 | none=>rw[hi] at s;cases s
 | some i =>
   rw[hi] at s;simp only[Option.map_some,Option.some.injEq] at s;have hs:=run_sizeOf w hi;rw[show Tryz.prog.cellsOf 83=1 by kernel_rfl] at hs;have p0:=fun k:Nat×Nat=>Zen w Tryz.underlying83 #[.int .i64 k.1,.int .i64 k.2] 0 _ rfl
   have p1:=fun k:Nat×Nat=>Zen w Tryz.underlying83 #[.int .i64 k.1,.int .i64 k.2] 1 _ rfl
   have hd:Op.maxDepth=9999+1:=rfl;unfold Op.equal encE;rw[hd];unfold Op.equalIn;simp only[Sem.run_bind,run_underlying Tryz.underlying205,Result.andThen_ok,hs];simp[List.range',p0,p1,hq];obtain⟨a1,a2⟩:=a;obtain⟨b1,b2⟩:=b;have e1:((a1:Int)=b1)↔a1=b1:=by omega
   have e2:((a2:Int)=b2)↔a2=b2:=by omega
   by_cases h1:a1=b1<;>by_cases h2:a2=b2<;>simp[e1,e2,h1,h2]
theorem Zpn:Zld Tryz.prog 205 encE :=
 Zww Tryz.underlying205 (fun a b=>by simp[Instr.sameNow]) eqE ckE (fun w k=>by simp[Instr.keyThatStays,Instr.sameBits,encE])
structure Zc0 (o:Own) (w:World) (v t:Nat) (f:Nat×Nat->Option Nat):Prop where
 own:o t=some (.tab v)
 ex:∃ mb l,w.heap[t]?=some (.cells #[.map (some mb)] 193 (0,0))/\o mb=some (.tmap v)/\Zaz w mb encE l/\∀ k,getL l k=(f k).map (fun(id:Nat)=>Value.int .i64 id)
theorem Zc0.keep {o o':Own} {w w':World} {v t:Nat} {f:Nat×Nat->Option Nat} (h:Zc0 o w v t f) (hk:∀ g r,o g=some r->(r=.tab v\/r=.tmap v)->w'.heap[g]?=w.heap[g]?) (ho:∀ g r,o g=some r->o' g=some r):Zc0 o' w' v t f:=by
 obtain⟨mb,l,h1,h2,h3,h4⟩:=h.ex;refine⟨ho _ _ h.own,mb,l,(hk _ _ h.own (.inl rfl)).trans h1,ho _ _ h2,?_,h4⟩;obtain⟨es,c,hb,rest⟩:=h3.ex;exact⟨⟨es,c,(hk _ _ h2 (.inr rfl)).trans hb,rest⟩,h3.nodup⟩
theorem Zc0.chg {R:Role->Prop} {o o':Own} {w w':World} {v t:Nat} {f:Nat×Nat->Option Nat} (h:Zc0 o w v t f) (hc:Chg R o o' w w') (hlt:Zai o w) (h1:¬ R (.tab v)) (h2:¬ R (.tmap v)):Zc0 o' w' v t f :=
 h.keep (fun g r hg hr=>hc.same hlt hg (by rcases hr with rfl|rfl<;>assumption)) hc.ext
theorem Zc0.below {o:Own} {w w':World} {v t:Nat} {f:Nat×Nat->Option Nat} (h:Zc0 o w v t f) (hb:Below w.heap.size w w') (hlt:Zai o w):Zc0 o w' v t f :=
 h.keep (fun g r hg _=>hb.block g (hlt g r hg)) (fun _ _ h=>h)
theorem cell1 {w:World} {g:Nat} {a:Value} {T:TypeId} (h:w.heap[g]?=some (.cells #[a] T (0,0))):w.cell? ⟨g,0,none⟩=some a:=by rw[cell_of_row w g 0 _ _ _ h];rfl
theorem Zc0.look {o:Own} {w:World} {v t:Nat} {f:Nat×Nat->Option Nat} (h:Zc0 o w v t f) (lo hi:Nat):∃ mb,w.cell? ⟨t,0,none⟩=some (.map (some mb)) /\
 (Instr.lookup 191 (.map (some mb)) (.agg #[.int .i64 lo,.int .i64 hi]) true).run Tryz.prog w=.ok (match f (lo,hi) with|some id=>.tuple #[.int .i64 id,.bool true]|none=>.tuple #[.int .i64 0,.bool false]) w:=by
 obtain⟨mb,l,h1,h2,h3,h4⟩:=h.ex;refine⟨mb,cell1 h1,?_⟩;have:=h3.lookup Zpn Tryz.underlying191 Tryz.zeroValue3 (lo,hi) true;rw[h4] at this;refine this.trans ?_;cases f (lo,hi)<;>rfl
theorem Zna (o:Own) (v t:Nat) (f:Nat×Nat->Option Nat) (lo hi id:Nat) (w:World) (h:Zc0 o w v t f) (hf:f (lo,hi)=some id) :
 Calls Tryz.prog 147 #[.pointer (some ⟨t,0,none⟩),.int .i64 lo,.int .i64 hi] w fun x w'=>x=.returned (.tuple #[.int .i64 id,.bool true])/\w=w':=by
 obtain⟨mb,c0,hl⟩:=h.look lo hi;rw[hf] at hl;clear h hf
 go_enter Tryz.func147,Tryz.ntmps147
 go_wp2
 go_ret2
 exact⟨rfl,rfl⟩
theorem Zre (o:Own) (v t:Nat) (f:Nat×Nat->Option Nat) (lo hi:Nat) (w:World) (h:Zc0 o w v t f) (hf:f (lo,hi)=none) :
 Calls Tryz.prog 147 #[.pointer (some ⟨t,0,none⟩),.int .i64 lo,.int .i64 hi] w fun x w'=>x=.returned (.tuple #[.int .i64 0,.bool false])/\w=w':=by
 obtain⟨mb,c0,hl⟩:=h.look lo hi;rw[hf] at hl;clear h hf
 go_enter Tryz.func147,Tryz.ntmps147
 go_wp2
 go_ret2
 exact⟨rfl,rfl⟩
def putF (f:Nat×Nat->Option Nat) (k:Nat×Nat) (x:Option Nat):Nat×Nat->Option Nat:=fun q=>if q=k then x else f q
theorem Zxw (o:Own) (v t:Nat) (f:Nat×Nat->Option Nat) (lo hi id:Nat) (w:World) (h:Zc0 o w v t f) (hlt:Zai o w) (hf:f (lo,hi)=none) :
 Calls Tryz.prog 158 #[.pointer (some ⟨t,0,none⟩),.int .i64 lo,.int .i64 hi,.int .i64 id] w fun x w'=>x=.returned (.int .i64 0)/\Zc0 o w' v t (putF f (lo,hi) (some id))/\Chg (· = .tmap v) o o w w'/\Zai o w':=by
 obtain⟨mb,l,h1,h2,h3,h4⟩:=h.ex;have c0:=cell1 h1;have hl:=h3.lookup Zpn Tryz.underlying191 Tryz.zeroValue3 (lo,hi) true;rw[h4,hf] at hl;simp only[Option.map_none,Option.getD_none,Option.isSome_none,if_true] at hl;unfold encE at hl;obtain⟨w',hr,h5,h6⟩:=h3.update Zpn Tryz.underlying191 (lo,hi) (.int .i64 id);have hr':(Instr.mapUpdate 191 (.map (some mb)) (.agg #[.int .i64 lo,.int .i64 hi]) (.int .i64 id)).run Tryz.prog w=.ok () w':=hr;have hfin:Zc0 o w' v t (putF f (lo,hi) (some id)):=by
  refine⟨h.own,mb,_,(h6.block t (hlt _ _ h.own) (fun e=>by cases e;have:=h.own;rw[h2] at this;cases this)).trans h1,h2,h5,fun k=>?_⟩;rw[Zki h3.nodup,h4];unfold putF;split<;>rfl
 have hc:Chg (· = .tmap v) o o w w':=(Chg.refl _ o w).grown h6 (fun g e=>by cases e;exact⟨_,h2,rfl⟩);have hol:Zai o w':=hlt.mono h6.size;have HF:=Hd hfin;have HC:=Hd hc;have HO:=Hd hol;clear h h1 h2 h3 h4 h5 h6 hr hfin hc hol hlt hf
 go_enter Tryz.func158,Tryz.ntmps158
 go_wp2
 go_ret;exact⟨rfl,HF.out,HC.out,HO.out⟩
theorem Zv8 (o:Own) (v t:Nat) (f:Nat×Nat->Option Nat) (lo hi id:Nat) (w:World) (h:Zc0 o w v t f) (hlt:Zai o w) (hf:f (lo,hi)=some id) :
 Calls Tryz.prog 110 #[.pointer (some ⟨t,0,none⟩),.int .i64 lo,.int .i64 hi] w fun x w'=>x=.returned (.int .i64 0)/\Zc0 o w' v t (putF f (lo,hi) none)/\Chg (· = .tmap v) o o w w'/\Zai o w':=by
 obtain⟨mb,l,h1,h2,h3,h4⟩:=h.ex;have c0:=cell1 h1;have hl:=h3.lookup Zpn Tryz.underlying191 Tryz.zeroValue3 (lo,hi) true;rw[h4,hf] at hl;simp only[Option.map_some,Option.getD_some,Option.isSome_some,if_true] at hl;unfold encE at hl;have hdel:=fun ty=>h3.delete Zpn Tryz.underlying191 (lo,hi) ty
 obtain⟨w',hr,h5,h6⟩:=hdel 0;have hr':(Builtin.delete_ #[191,205] 0 #[.map (some mb),.agg #[.int .i64 lo,.int .i64 hi]]).run Tryz.prog w=.ok (.tuple #[]) w':=hr;have hfin:Zc0 o w' v t (putF f (lo,hi) none):=by
  refine⟨h.own,mb,_,(h6.block t (hlt _ _ h.own) (fun e=>by cases e;have:=h.own;rw[h2] at this;cases this)).trans h1,h2,h5,fun k=>?_⟩;rw[Zwk h3.nodup,h4];unfold putF;split<;>rfl
 have hc:Chg (· = .tmap v) o o w w':=(Chg.refl _ o w).grown h6 (fun g e=>by cases e;exact⟨_,h2,rfl⟩);have hol:Zai o w':=hlt.mono h6.size;have HF:=Hd hfin;have HC:=Hd hc;have HO:=Hd hol;clear h h1 h2 h3 h4 h5 h6 hr hfin hc hol hlt hf hdel
 go_enter Tryz.func110,Tryz.ntmps110
 go_wp2
 go_ret;exact⟨rfl,HF.out,HC.out,HO.out⟩
open Go.RowKit
theorem Yc1 (d:Nat) (w:World) (a b c a' b' c':Nat):(Op.equalIn (d+2) 206 (.agg #[.int .i64 a,.int .i64 b,.int .i64 c]) (.agg #[.int .i64 a',.int .i64 b',.int .i64 c'])).run Tryz.prog w=.ok (decide (a=a'/\b=b'/\c=c')) w:=by
 have hq:=fun(x y:Int)=>run_equalIn_int (P:=Tryz.prog) w d 83 .i64 .i64 x y Tryz.underlying83
 have s:=Zn7;cases hi:Tryz.prog.info? 83 with
 | none=>rw[hi] at s;cases s
 | some i =>
   have hs:=run_sizeOf w hi;rw[show Tryz.prog.cellsOf 83=1 by kernel_rfl] at hs;have p0:=fun a b c:Nat=>Zen w Tryz.underlying83 #[.int .i64 a,.int .i64 b,.int .i64 c] 0 _ rfl
   have p1:=fun a b c:Nat=>Zen w Tryz.underlying83 #[.int .i64 a,.int .i64 b,.int .i64 c] 1 _ rfl
   have p2:=fun a b c:Nat=>Zen w Tryz.underlying83 #[.int .i64 a,.int .i64 b,.int .i64 c] 2 _ rfl
   unfold Op.equalIn;simp only[Sem.run_bind,run_underlying Tryz.underlying206,Result.andThen_ok,hs];simp[List.range',p0,p1,p2,hq];have e1:((a:Int)=a')↔a=a':=by omega
   have e2:((b:Int)=b')↔b=b':=by omega
   have e3:((c:Int)=c')↔c=c':=by omega
   by_cases h1:a=a'<;>by_cases h2:b=b'<;>by_cases h3:c=c'<;>simp[e1,e2,e3,h1,h2,h3]
theorem Ydp (w:World) (op op':Int) (a b c a' b' c':Nat):(Op.equal 208 (keyV op a b c) (keyV op' a' b' c')).run Tryz.prog w=.ok (decide (op=op'/\a=a'/\b=b'/\c=c')) w:=by
 have hq:=fun(x y:Int)=>run_equalIn_int (P:=Tryz.prog) w 9998 3 .i64 .i64 x y Tryz.underlying3
 have h:=run_equalIn_struct (P:=Tryz.prog) w 9999 208 #[.int .i64 op,.int .i64 a,.int .i64 b,.int .i64 c] #[.int .i64 op',.int .i64 a',.int .i64 b',.int .i64 c'] (by simp[Program.fieldsOf,Tryz.underlying208]) (by kernel_rfl);have h3:=Yc1 9997 w a b c a' b' c';have hd:Op.maxDepth=9999+1:=rfl;have hpk:∀ op a b c:Value,(part 206 #[op,a,b,c] 1).run Tryz.prog w=.ok (.agg #[a,b,c]) w:=by
  intro op a b c;cases hi:Tryz.prog.info? 206 with
  | none => have s : (Tryz.prog.info? 206).map (fun i => i.size) = some 3 := by kernel_rfl
            rw[hi] at s;cases s
  | some i =>
    have hs:=run_sizeOf w hi;rw[show Tryz.prog.cellsOf 206=3 by kernel_rfl] at hs;simp[part,isAgg,run_underlying Tryz.underlying206]
 have hpi:∀ op a b c:Value,(part 3 #[op,a,b,c] 0).run Tryz.prog w=.ok op w:=fun op a b c=>Zen w Tryz.underlying3 _ 0 _ rfl
 unfold Op.equal keyV;rw[hd,h];simp only[Program.fieldsOf,Tryz.underlying208];simp[Op.eqFields,hpk,hpi,hq,h3]
 by_cases h1:op=op'<;>by_cases h2:a=a'<;>by_cases h3:b=b'<;>by_cases h4:c=c'<;>simp[h1,h2,h3,h4]
theorem Zuv (w:World) (op op':Int) (a b c a' b' c':Nat):(binOp .neq 208 (.agg #[.int .i64 op,.int .i64 a,.int .i64 b,.int .i64 c]) (.agg #[.int .i64 op',.int .i64 a',.int .i64 b',.int .i64 c'])).run Tryz.prog w=.ok (.bool (!decide (op=op'/\a=a'/\b=b'/\c=c'))) w:=by
 have h:=Ydp w op op' a b c a' b' c';unfold keyV at h;simp only[binOp];simp[h]
structure EntD where
 op:Int
 a:Nat
 b:Nat
 c:Nat
 r:Nat
 full:Bool
def entV (e:EntD):List Value:=[.int .i64 e.op,.int .i64 e.a,.int .i64 e.b,.int .i64 e.c,.int .i64 e.r,.bool e.full]
theorem Zbm (e:EntD):(entV e).length=6:=rfl
def ent0:EntD:=⟨0,0,0,0,0,false⟩
def Zeg (l:List EntD) (i:Nat):EntD:=l.getD i ent0
abbrev Phi:=Int->Nat->Nat->Nat->Nat->Prop
def Zvb (F:Phi) (l:List EntD):Prop:=∀ i,(Zeg l i).full=true->F (Zeg l i).op (Zeg l i).a (Zeg l i).b (Zeg l i).c (Zeg l i).r
structure Zcd (o:Own) (w:World) (mb:Nat) (F:Phi):Prop where
 own:o mb=some .memo
 ex:∃ ve asked found,w.heap[mb]?=some (.cells #[.int .i64 4096,ve,.int .i64 asked,.int .i64 found] 148 (0,0)) /\
  (ve=.slice none 0 0\/∃ ge cap l,ve=.slice (some ⟨ge,0,none⟩) 4096 cap/\l.length=4096/\RowR o w .entries 212 6 ve 4096 (l.flatMap entV)/\Zvb F l)
theorem Zcd.keep {o o':Own} {w w':World} {mb:Nat} {F:Phi} (h:Zcd o w mb F) (hk:∀ g r,o g=some r->(r=.memo\/r=.entries)->w'.heap[g]?=w.heap[g]?) (ho:∀ g r,o g=some r->o' g=some r):Zcd o' w' mb F:=by
 obtain⟨ve,a,f,h1,h2⟩:=h.ex;refine⟨ho _ _ h.own,ve,a,f,(hk _ _ h.own (.inl rfl)).trans h1,h2.imp id ?_⟩;rintro⟨ge,cap,l,e1,e2,e3,e4⟩;exact⟨ge,cap,l,e1,e2,e3.keep (fun g hg=>hk g _ hg (.inr rfl)) (fun g hg=>ho g _ hg),e4⟩
theorem Zcd.chg {R:Role->Prop} {o o':Own} {w w':World} {mb:Nat} {F:Phi} (h:Zcd o w mb F) (hc:Chg R o o' w w') (hlt:Zai o w) (h1:¬ R .memo) (h2:¬ R .entries):Zcd o' w' mb F :=
 h.keep (fun g r hg hr=>hc.same hlt hg (by rcases hr with rfl|rfl<;>assumption)) hc.ext
theorem cells4 {w:World} {g:Nat} {a b c d:Value} {T:TypeId} (h:w.heap[g]?=some (.cells #[a,b,c,d] T (0,0))):w.cell? ⟨g,0,none⟩=some a/\w.cell? ⟨g,1,none⟩=some b/\w.cell? ⟨g,2,none⟩=some c/\w.cell? ⟨g,3,none⟩=some d/\(∀ k,w.frozen? ⟨g,k,none⟩=false) :=
 ⟨by rw[cell_of_row w g 0 _ _ _ h];rfl,by rw[cell_of_row w g 1 _ _ _ h];rfl,by rw[cell_of_row w g 2 _ _ _ h];rfl,by rw[cell_of_row w g 3 _ _ _ h];rfl,fun k=>by simp[World.frozen?,h]⟩
theorem Zm6 {o:Own} {w:World} {g cap m:Nat} {l:List EntD} (h:RowR o w .entries 212 6 (.slice (some ⟨g,0,none⟩) m cap) 4096 (l.flatMap entV)) (hl:l.length=4096) {k:Nat} (hk:k<4096) :
 w.cell? ⟨g,k*6,none⟩=some (.int .i64 (Zeg l k).op)/\w.cell? ⟨g,k*6+1,none⟩=some (.int .i64 (Zeg l k).a)/\w.cell? ⟨g,k*6+2,none⟩=some (.int .i64 (Zeg l k).b)/\w.cell? ⟨g,k*6+3,none⟩=some (.int .i64 (Zeg l k).c) /\
 w.cell? ⟨g,k*6+4,none⟩=some (.int .i64 (Zeg l k).r)/\w.cell? ⟨g,k*6+5,none⟩=some (.bool (Zeg l k).full):=by
 have hx:l[k]?=some (Zeg l k):=by simp[Zeg,List.getD,hl,hk]
 have hlen:(l.flatMap entV).length=4096*6:=by rw[Za6 entV 6 Zbm,hl]
 have e:=fun j (hj:j<6)=>(h.cell (k*6+j) (by rw[hlen];omega)).trans (Zfe entV 6 Zbm l k j _ hx hj)
 exact⟨e 0 (by omega),e 1 (by omega),e 2 (by omega),e 3 (by omega),e 4 (by omega),e 5 (by omega)⟩
def Ybc (F:Phi) (op:Int) (a b c:Nat) (x:Ending):Prop:=x=.returned (.tuple #[.int .i64 0,.bool false])\/∃ r:Nat,x=.returned (.tuple #[.int .i64 r,.bool true])/\F op a b c r
theorem Zwl (o:Own) (mb:Nat) (F:Phi) (op:Int) (a b c:Nat) (w:World) (h:Zcd o w mb F) (hlt:Zai o w) :
 Calls Tryz.prog 101 #[.pointer (some ⟨mb,0,none⟩),.int .i64 op,.int .i64 a,.int .i64 b,.int .i64 c] w fun x w'=>Ybc F op a b c x/\Zcd o w' mb F/\Chg (· = .memo) o o w w'/\Zai o w':=by
 obtain⟨ve,asked,found,hmb,hv⟩:=h.ex;obtain⟨c0,c1,c2,c3,f0⟩:=cells4 hmb;obtain⟨W,hW⟩:∃ W,W=w.setCell ⟨mb,2,none⟩ (.int .i64 (wrap64 (asked+1))):=⟨_,rfl⟩;have hmbW:W.heap[mb]?=some (.cells #[.int .i64 4096,ve,.int .i64 (wrap64 (asked+1)),.int .i64 found] 148 (0,0)):=by rw[hW];exact Zae hmb _
 have hcW:Chg (· = .memo) o o w W:=by rw[hW];exact Chg.setCell (R:=(· = .memo)) (Chg.refl _ o w) (p:=⟨mb,2,none⟩) h.own rfl _
 have hlW:Zai o W:=hlt.mono hcW.size;rcases hv with rfl|⟨ge,cap,l,rfl,hl,hrow,hok⟩
 ·
  have hfin:Zcd o W mb F:=⟨h.own,_,_,_,hmbW,.inl rfl⟩;have HF:=Hd hfin;have HC:=Hd hcW;have HL:=Hd hlW;have HW:=Hd hW;obtain⟨d0,d1,d2,d3,g0⟩:=cells4 hmbW;rw[hW] at d0 d1 d2 d3 g0;clear h hlt hmb hmbW hcW hlW hfin hW
  go_enter Tryz.func101,Tryz.ntmps101
  go_wp2_with fail
  go_ret2
  rw[<- HW.out];exact⟨.inl rfl,HF.out,HC.out,HL.out⟩
 ·
  have hrW:RowR o W .entries 212 6 (.slice (some ⟨ge,0,none⟩) 4096 cap) 4096 (l.flatMap entV):=hrow.chg hcW hlt (by simp);have hfin:Zcd o W mb F:=⟨h.own,_,_,_,hmbW,.inr ⟨ge,cap,l,rfl,hl,hrW,hok⟩⟩;obtain⟨d0,d1,d2,d3,g0⟩:=cells4 hmbW;have hB:=(Zaf W (.cells #[.int .i64 op,.int .i64 a,.int .i64 b,.int .i64 c] 208));have e1:=(hB.cell (p:=⟨mb,1,none⟩) (Zab d1)).trans d1;have HPL:=Hd (Zp3 mb ge cap op a b c _ e1);have hz:W.heap.size=w.heap.size:=by rw[hW];simp[World.setCell]
  obtain⟨bx,hbx⟩:∃ bx,bx=w.heap.size:=⟨_,rfl⟩;obtain⟨WK,hWK⟩:∃ WK,WK=W.alloc (.cells #[.int .i64 op,.int .i64 a,.int .i64 b,.int .i64 c] 208):=⟨_,rfl⟩;have hkb:WK.heap[bx]?=some (.cells #[.int .i64 op,.int .i64 a,.int .i64 b,.int .i64 c] 208 (0,0)):=by rw[hWK,hbx,<- hz];exact heap_alloc_new W _
  rw[<- hWK] at HPL hB;have HFIN:=Hd hfin;have HCW:=Hd hcW;have HLW:=Hd hlW;have HRW:=Hd hrW;have HL:=Hd hl;have HOK:=Hd hok;have HB:=Hd hB;have HKB:=Hd hkb;have HMB:=Hd hmbW;have HOWN:=Hd h.own;have HW:=Hd hW;have HWK:=Hd hWK;have HZ:=Hd hz;have HBX:=Hd hbx;rw[hW] at d0 d1 d2 d3 g0;have lmb:mb<w.heap.size:=Zab c0;clear h hlt hmb hmbW hcW hlW hfin hW hrW hok hl hrow hB hkb hWK hbx hz e1
  go_enter Tryz.func101,Tryz.ntmps101
  go_wp2_with fail;rw[<- HW.out,<- HWK.out,<- HBX.out];refine HPL.out.mono ?_;rintro x w2 ⟨i,hi,rfl,hb2⟩;have hbW2:Below W.heap.size W w2:=HB.out.trans (hb2.mono HB.out.size);have hrow2:=HRW.out.below HLW.out hbW2;have hmb2:=(hbW2.block mb (HLW.out _ _ HOWN.out)).trans HMB.out;have hkb2:=(hb2.block bx (Array.getElem?_eq_some_iff.1 HKB.out).1).trans HKB.out;have hc2:Chg (· = .memo) o o w w2:=HCW.out.trans (Chg.of_below hbW2 _ _);have hl2:Zai o w2:=HLW.out.mono hbW2.size;obtain⟨E,hE⟩:∃ E,Zeg (l:=l) i=E:=⟨_,rfl⟩;obtain⟨n0,n1,n2,n3,n4,n5⟩:=Zm6 hrow2 HL.out hi;rw[hE] at n0 n1 n2 n3 n4 n5;obtain⟨k0,k1,k2,k3,fk⟩:=cells4 hkb2;clear d0 d1 d2 d3 g0 c0 c1 c2 c3 f0 lmb;obtain⟨d0,d1,d2,d3,g0⟩:=cells4 hmb2;have hfin2:Zcd o w2 mb F:=⟨HOWN.out,_,_,_,hmb2,.inr ⟨ge,cap,l,rfl,HL.out,hrow2,HOK.out⟩⟩;have HF2:=Hd hfin2;have HC2:=Hd hc2;have HL2:=Hd hl2;have HMB2:=Hd hmb2;have HR2:=Hd hrow2;have HEE:=Hd hE;clear hfin2 hc2 hl2 hb2 hbW2 hrow2 hmb2 hkb2 hE HPL;have hneq:=Zuv
  by_cases hfull:E.full=true
  ·
   rw[hfull] at n5;have HFU:=Hd hfull
   by_cases hkey:E.op=op/\E.a=a/\E.b=b/\E.c=c
   ·
    have hd:decide (E.op=op/\E.a=a/\E.b=b/\E.c=c)=true:=decide_eq_true hkey;have hne:∀ w,(binOp .neq 208 (.agg #[.int .i64 E.op,.int .i64 E.a,.int .i64 E.b,.int .i64 E.c]) (.agg #[.int .i64 op,.int .i64 a,.int .i64 b,.int .i64 c])).run Tryz.prog w=.ok (.bool false) w:=fun w=>by rw[hneq,hd];rfl
    have HK:=Hd hkey;clear hneq hd hkey hfull;go_wp2_with fail
    go_quiet (fail)
    go_wp2_with fail
    go_ret2
    have hphi:=HOK.out i (by rw[HEE.out];exact HFU.out);rw[HEE.out,HK.out.1,HK.out.2.1,HK.out.2.2.1,HK.out.2.2.2] at hphi;refine⟨.inr ⟨E.r,rfl,hphi⟩,⟨HOWN.out,_,_,_,Zae (w:=w2.drewN nq) HMB2.out _,.inr ⟨ge,cap,l,rfl,HL.out,?_,HOK.out⟩⟩,Chg.setCell (R:=(· = .memo)) (HC2.out.drewN nq) (p:=⟨mb,3,none⟩) HOWN.out rfl _,HL2.out.mono (by simp[World.setCell])⟩;exact(HR2.out.keep (w':=w2.drewN nq) (fun _ _=>rfl) (fun _ h=>h)).setCell_other (p:=⟨mb,3,none⟩) (by rw[HOWN.out];simp) _
   ·
    have hd:decide (E.op=op/\E.a=a/\E.b=b/\E.c=c)=false:=decide_eq_false hkey;have hne:∀ w,(binOp .neq 208 (.agg #[.int .i64 E.op,.int .i64 E.a,.int .i64 E.b,.int .i64 E.c]) (.agg #[.int .i64 op,.int .i64 a,.int .i64 b,.int .i64 c])).run Tryz.prog w=.ok (.bool true) w:=fun w=>by rw[hneq,hd];rfl
    clear hneq hd hkey hfull;go_wp2_with fail
    go_quiet (fail)
    go_wp2_with fail
    go_ret2
    exact⟨.inl rfl,HF2.out.keep (fun _ _ _ _=>rfl) (fun _ _ h=>h),HC2.out.drewN _,HL2.out⟩
  ·
   have hfull':E.full=false:=by simpa using hfull
   rw[hfull'] at n5;clear hneq hfull hfull';go_wp2_with fail
   go_quiet (fail)
   go_wp2_with fail
   go_ret2
   exact⟨.inl rfl,HF2.out.keep (fun _ _ _ _=>rfl) (fun _ _ h=>h),HC2.out.drewN _,HL2.out⟩
open Go.RowKit
theorem Zpk:(Tryz.prog.info? 212).map (fun i=>(i.zero,i.size,i.bytes))=some (some (.agg #[.int .i64 0,.int .i64 0,.int .i64 0,.int .i64 0,.int .i64 0,.bool false]),6,48):=by kernel_rfl
theorem Zi5 (n:Nat):(madeCells #[.int .i64 0,.int .i64 0,.int .i64 0,.int .i64 0,.int .i64 0,.bool false] (n*6)).toList=(List.replicate n ent0).flatMap entV:=by
 apply List.ext_getElem?;intro i;simp only[madeCells,Array.toList_map,Array.toList_range,List.getElem?_map]
 by_cases hi:i<n*6
 ·
  have e:=Zfe entV 6 Zbm (List.replicate n ent0) (i/6) (i%6) ent0 (by rw[List.getElem?_replicate,if_pos (by omega)]) (by omega);rw[show i/6*6+i%6=i by omega] at e;rw[e,List.getElem?_range hi];have hm:i%6=0\/i%6=1\/i%6=2\/i%6=3\/i%6=4\/i%6=5:=by omega
  simp only[Option.map_some];rcases hm with h|h|h|h|h|h<;>simp[h,entV,ent0]
 ·
  have hl:((List.replicate n ent0).flatMap entV).length=n*6:=by rw[Za6 entV 6 Zbm];simp
  rw[List.getElem?_eq_none (l:=(List.replicate n ent0).flatMap entV) (by omega),List.getElem?_eq_none (by simp;omega)];rfl
theorem Zx7:(Tryz.prog.info? 212).map (fun i=>i.size)=some 6:=by kernel_rfl
def set6 (w:World) (g k:Nat) (e:EntD):World :=
 (((((w.setCell ⟨g,k*6,none⟩ (.int .i64 e.op)).setCell ⟨g,k*6+1,none⟩ (.int .i64 e.a)).setCell ⟨g,k*6+2,none⟩ (.int .i64 e.b)).setCell ⟨g,k*6+3,none⟩ (.int .i64 e.c)).setCell ⟨g,k*6+4,none⟩ (.int .i64 e.r)).setCell ⟨g,k*6+5,none⟩ (.bool e.full)
theorem Zg3 {w:World} {g k:Nat} (f:∀ j,w.frozen? ⟨g,j,none⟩=false) {u0 u1 u2 u3 u4 u5:Value} (c0:w.cell? ⟨g,k*6,none⟩=some u0) (c1:w.cell? ⟨g,k*6+1,none⟩=some u1) (c2:w.cell? ⟨g,k*6+2,none⟩=some u2) (c3:w.cell? ⟨g,k*6+3,none⟩=some u3) (c4:w.cell? ⟨g,k*6+4,none⟩=some u4) (c5:w.cell? ⟨g,k*6+5,none⟩=some u5) (E:EntD) :
 (Instr.storeAt 212 (.pointer (some ⟨g,k*6,none⟩)) (.agg #[.int .i64 E.op,.int .i64 E.a,.int .i64 E.b,.int .i64 E.c,.int .i64 E.r,.bool E.full])).run Tryz.prog w=.ok () (set6 w g k E):=by
 have s:=Zx7;have hadd:∀ j,(⟨g,k*6,none⟩:Addr).add j=⟨g,k*6+j,none⟩:=fun j=>by unfold Addr.add;split<;>simp_all
 have hsa:(Instr.sureAddr (Value.pointer (some ⟨g,k*6,none⟩))).run Tryz.prog w=.ok ⟨g,k*6,none⟩ w:=rfl;cases hi:Tryz.prog.info? 212 with
 | none=>rw[hi] at s;cases s
 | some i =>
   rw[hi] at s;simp only[Option.map_some,Option.some.injEq] at s;have fz:∀ (w':World) p v j,(w'.setCell p v).frozen? ⟨g,j,none⟩=w'.frozen? ⟨g,j,none⟩:=fun w' p v j=>World.frozen?_setCell _ _ _ _
   obtain⟨v1,e1⟩:=Zbd (p:=⟨g,k*6,none⟩) (v:=.int .i64 E.op) c1;obtain⟨v2,e2⟩:=Zbd (p:=⟨g,k*6,none⟩) (v:=.int .i64 E.op) c2;obtain⟨v2,e2⟩:=Zbd (p:=⟨g,k*6+1,none⟩) (v:=.int .i64 E.a) e2;obtain⟨v3,e3⟩:=Zbd (p:=⟨g,k*6,none⟩) (v:=.int .i64 E.op) c3;obtain⟨v3,e3⟩:=Zbd (p:=⟨g,k*6+1,none⟩) (v:=.int .i64 E.a) e3;obtain⟨v3,e3⟩:=Zbd (p:=⟨g,k*6+2,none⟩) (v:=.int .i64 E.b) e3;obtain⟨v4,e4⟩:=Zbd (p:=⟨g,k*6,none⟩) (v:=.int .i64 E.op) c4;obtain⟨v4,e4⟩:=Zbd (p:=⟨g,k*6+1,none⟩) (v:=.int .i64 E.a) e4;obtain⟨v4,e4⟩:=Zbd (p:=⟨g,k*6+2,none⟩) (v:=.int .i64 E.b) e4;obtain⟨v4,e4⟩:=Zbd (p:=⟨g,k*6+3,none⟩) (v:=.int .i64 E.c) e4;obtain⟨v5,e5⟩:=Zbd (p:=⟨g,k*6,none⟩) (v:=.int .i64 E.op) c5;obtain⟨v5,e5⟩:=Zbd (p:=⟨g,k*6+1,none⟩) (v:=.int .i64 E.a) e5;obtain⟨v5,e5⟩:=Zbd (p:=⟨g,k*6+2,none⟩) (v:=.int .i64 E.b) e5;obtain⟨v5,e5⟩:=Zbd (p:=⟨g,k*6+3,none⟩) (v:=.int .i64 E.c) e5;obtain⟨v5,e5⟩:=Zbd (p:=⟨g,k*6+4,none⟩) (v:=.int .i64 E.r) e5;have s0:=Zcz (P:=Tryz.prog) (v:=.int .i64 E.op) c0 (f _) rfl;have s1:=Zcz (P:=Tryz.prog) (v:=.int .i64 E.a) e1 (by rw[fz];exact f _) rfl;have s2:=Zcz (P:=Tryz.prog) (v:=.int .i64 E.b) e2 (by rw[fz,fz];exact f _) rfl;have s3:=Zcz (P:=Tryz.prog) (v:=.int .i64 E.c) e3 (by rw[fz,fz,fz];exact f _) rfl;have s4:=Zcz (P:=Tryz.prog) (v:=.int .i64 E.r) e4 (by rw[fz,fz,fz,fz];exact f _) rfl;have s5:=Zcz (P:=Tryz.prog) (v:=.bool E.full) e5 (by rw[fz,fz,fz,fz,fz];exact f _) rfl;simp only[Instr.storeAt,Sem.run_bind,hsa,Result.andThen_ok];simp[storeVar,sizeOf,typeInfo,hi,s,Value.cells,storeCells,hadd,s0,s1,s2,s3,s4,s5,set6]
theorem Ycl (xs:List Value) (k:Nat) (a b c d e f:Value) (h:k+6<=xs.length):(((((xs.set k a).set (k+1) b).set (k+2) c).set (k+3) d).set (k+4) e).set (k+5) f=xs.take k++[a,b,c,d,e,f]++xs.drop (k+6):=by
 apply List.ext_getElem?;intro i;simp only[List.getElem?_set,List.length_set]
 by_cases h0:i<k
 ·
  rw[List.getElem?_append_left (by simp;omega),List.getElem?_append_left (by simp;omega),List.getElem?_take,if_pos h0];rw[if_neg (by omega),if_neg (by omega),if_neg (by omega),if_neg (by omega),if_neg (by omega),if_neg (by omega)]
 ·
  by_cases h1:i<k+6
  ·
   rw[List.getElem?_append_left (by simp;omega),List.getElem?_append_right (by simp;omega)];have hl:(xs.take k).length=k:=by simp;omega
   rw[hl];have:i=k\/i=k+1\/i=k+2\/i=k+3\/i=k+4\/i=k+5:=by omega
   rcases this with rfl|rfl|rfl|rfl|rfl|rfl<;>(simp;omega)
  ·
   rw[if_neg (by omega),if_neg (by omega),if_neg (by omega),if_neg (by omega),if_neg (by omega),if_neg (by omega)];rw[List.getElem?_append_right (by simp;omega)];simp only[List.length_append,List.length_take,List.length_cons,List.length_nil,List.getElem?_drop];congr 1;omega
theorem Zx1 {o:Own} {w:World} {g cap m:Nat} {l:List EntD} {k:Nat} (h:RowR o w .entries 212 6 (.slice (some ⟨g,0,none⟩) m cap) l.length (l.flatMap entV)) (hk:k<l.length) (E:EntD) :
 RowR o (set6 w g k E) .entries 212 6 (.slice (some ⟨g,0,none⟩) m cap) l.length ((l.set k E).flatMap entV):=by
 have h6:=(((((h.stored (k*6) (.int .i64 E.op)).stored (k*6+1) (.int .i64 E.a)).stored (k*6+2) (.int .i64 E.b)).stored (k*6+3) (.int .i64 E.c)).stored (k*6+4) (.int .i64 E.r)).stored (k*6+5) (.bool E.full);have hl:(l.flatMap entV).length=l.length*6:=Za6 entV 6 Zbm _;rw[Ycl _ _ _ _ _ _ _ _ (by rw[hl];omega)] at h6;rw[Znb entV 6 Zbm l k E hk];exact h6
theorem Zx5 {w:World} {g k:Nat} {E:EntD} {b:Nat} (hb:b≠g):(set6 w g k E).heap[b]?=w.heap[b]?:=by
 unfold set6;rw[Zad hb,Zad hb,Zad hb,Zad hb,Zad hb,Zad hb]
theorem Zs1 {R:Role->Prop} {o o':Own} {w0 w:World} {g k:Nat} {E:EntD} (h:Chg R o o' w0 w) (hg:o' g=some .entries) (hR:R .entries):Chg R o o' w0 (set6 w g k E) :=
 (((((h.setCell (p:=⟨g,k*6,none⟩) hg hR _).setCell (p:=⟨g,k*6+1,none⟩) hg hR _).setCell (p:=⟨g,k*6+2,none⟩) hg hR _).setCell (p:=⟨g,k*6+3,none⟩) hg hR _).setCell (p:=⟨g,k*6+4,none⟩) hg hR _).setCell (p:=⟨g,k*6+5,none⟩) hg hR _
theorem Zwg {F:Phi} {l:List EntD} (h:Zvb F l) (k:Nat) {E:EntD} (hE:F E.op E.a E.b E.c E.r):Zvb F (l.set k E):=by
 intro i hi
 by_cases e:i=k/\k<l.length
 ·
  obtain⟨rfl,hk⟩:=e;have:Zeg (l.set i E) i=E:=by simp[Zeg,List.getD,hk]
  rw[this];exact hE
 ·
  have:Zeg (l.set k E) i=Zeg l i:=by
   simp only[Zeg,List.getD,List.getElem?_set]
   by_cases e1:k=i
   ·
    rw[if_pos e1];have:¬ k<l.length:=fun h'=>e ⟨e1.symm,h'⟩
    rw[if_neg this];subst e1;rw[List.getElem?_eq_none (by omega)]
   ·
    rw[if_neg e1]
  rw[this] at hi ⊢;exact h i hi
end Go.Proofs.YtlgogjbkadckkaaGreat
