/- Several texts in one file: contracts of the program's functions and what follows from them. -/
import Derived.Test.YtkidaindpahefaaGreatRows
import Derived.WalkKit
import Derived.WalkSpells
import Derived.WalkLawsBesides
import Derived.Lib.Hide
import Derived.BigQuiet
import Derived.Deep.QuietTactic
import Derived.Deep.LoopGhost
import Derived.Deep.RegionWith
import Derived.Laws.CopyOwn
import Derived.Laws.AppendOwnNone
import Derived.Maps.AppendAt
import Derived.OwnWalk
import Derived.RangeFuncNested
import Derived.RangeFuncBound
import Derived.RangeFuncCalls
import Derived.RangeFuncLeaves
import Derived.RangeFuncWrites
import Derived.Shelf.Abstract
import Derived.Shelf.RegionOpen
import Derived.OwnWalkIn
import Derived.TacticsInMore
import Derived.LoopNIn
import Derived.LoopIn
import Derived.Laws.Bits64
import Derived.OrdersHeld
import Derived.KernelRfl
import Derived.Deep.CutBlock
import Derived.Deep.DeepCutAuto
import Derived.MapKept
import Derived.ChangeKeysEq
import Derived.Maps.OwnSet
set_option linter.unusedSimpArgs false
set_option linter.unusedVariables false
set_option linter.unusedSectionVars false
set_option linter.unnecessarySimpa false
set_option maxRecDepth 100000
set_option maxHeartbeats 8000000
namespace Go.Proofs.YtkidaindpahefaaGreat
open Go.Proofs.Tryz
open Go.RowKit
def Hq(p:Prop):Prop:=p
theorem Hq.o{p:Prop}(h:Hq p):p:=h
theorem Hd{p:Prop}(h:p):Hq p:=h
abbrev Wd:=World
abbrev Iv(n:Int):Value:=.int .i64 n
abbrev Pt(b:Nat):Value:=.pointer (some ⟨b,0,none⟩)
abbrev Av(b:Nat):Addr:=⟨b,0,none⟩
abbrev Aw(b k:Nat):Addr:=⟨b,k,none⟩
abbrev Cl:=Calls prog
abbrev Sm(v:Value)(w:World):Ending->World->Prop:=fun x w'=>x=.returned v/\w=w'
abbrev Bl(v:Value)(w:World):Ending->World->Prop:=fun x w'=>x=.returned v/\Below w.heap.size w w'
abbrev Bw(w w':World):Prop:=Below w.heap.size w w'
theorem Ex{α:Sort _}(a:α):∃ y,y=a:=⟨_,rfl⟩
abbrev XF:=@World.block_lt_of_cell?
theorem Cq{w w':World}{b k:Nat}{v:Value}(h:Below w.heap.size w w')(e:w.cell? ⟨b,k,none⟩=some v):w'.cell? ⟨b,k,none⟩=some v:=(h.cell (p:=⟨b,k,none⟩) (XF w _ e)).trans e
abbrev Wl:=@World.cell?_of_block
theorem Co{w w':World}{b k:Nat}{v:Value}(f:w.cell? ⟨b,k,none⟩=some v)(e:w'.heap[b]?=w.heap[b]?):w'.cell? ⟨b,k,none⟩=some v:=(Wl (w:=w) (a:=⟨b,k,none⟩) e).trans f
variable {L:Array Bool}{M:Nat->Prop}{P:Program}{Q:Exit->Act->Wd->Prop}{S:Wd->Prop}{T t:TypeId}{W w w' w'' w0 wx:Wd}{a:Act}{args:Array Value}{b base c cap e g gf i id j k k' n n₀ pb x:Nat}{l rest:List Oper}{last:Bool}{ops:Array Oper}{u v v' vf:Value}{xs ys zs:List Int}

theorem Ab:(∀ (a:Act) (d:Tmp) (v:Value),a.put (some d) v={ a with tmps:=a.tmps.setIfInBounds d v })/\(∀ (a:Act) (v:Value),a.put none v=a)/\(∀ (l:List Value) (i:Nat) (x:Value),l.toArray.setIfInBounds i x=(l.set i x).toArray)/\(∀ (l:List Value) (x y:Value),(x::l).set 0 y=y::l)/\(∀ (l:List Value) (n:Nat) (x y:Value),(x::l).set (n+1) y=x::l.set n y) :=
 ⟨fun _ _ _=>rfl,fun _ _=>rfl,fun _ _ _=>List.setIfInBounds_toArray ..,fun _ _ _=>rfl,fun _ _ _ _=>rfl⟩
abbrev Wg:=@Option.some.injEq
theorem C5:(∀ (l:List Oper) (x:Oper),(x::l)[0]?=some x)/\(∀ (l:List Oper) (n:Nat) (x:Oper),(x::l)[n+1]?=l[n]?)/\(∀ x y:Oper,(some x=some y)=(x=y)) :=
 ⟨fun _ _=>rfl,fun _ _ _=>rfl,fun x y=>Wg x y⟩
abbrev Wj:=@List.mem_cons
abbrev Yk:=@List.not_mem_nil
theorem CC:(∀ (l:List Nat) (a b:Nat),(a∈b::l)=(a=b\/a∈l))/\(∀ a:Nat,(a∈([]:List Nat))=False)/\(∀ p:Prop,(p\/False)=p) :=
 ⟨fun _ _ _=>propext Wj,fun _=>eq_false Yk,fun p=>or_false p⟩
theorem AH:(∀ (f:Nat×Bool->Option Oper×Bool) (a:Nat×Bool) (l:List (Nat×Bool)),(a::l).map f=f a::l.map f)/\(∀ f:Nat×Bool->Option Oper×Bool,[].map f=[])/\(∀ (l:List Oper) (n:Nat) (x:Oper),(x::l)[n+1]?=l[n]?)/\(∀ (l:List Oper) (x:Oper),(x::l)[0]?=some x) :=
 ⟨fun _ _ _=>rfl,fun _=>rfl,fun _ _ _=>rfl,fun _ _=>rfl⟩
open Go.Maps
theorem Gx {a b:Int}(h:a=b):Ending.returned (Iv a)=.returned (Iv b):=by rw[h]
theorem BD {a b:Bool}(h:a=b):Ending.returned (.bool a)=.returned (.bool b):=by rw[h]
theorem Cg {B:Nat}{a:Wd}(h:Below B a w)(n:Nat):Below B a (w.drewN n):=Go.below_drewN h n
def at0 (zs:List Int)(k:Nat):Int:=zs.getD k 0
theorem As (h:k<zs.length):at0 zs k=zs[k]:=by simp[at0,List.getD,h]
abbrev VA:=@List.getElem?_eq_getElem
theorem getElem?_at0 (h:k<zs.length):zs[k]?=some (at0 zs k):=by rw[As h];exact VA h
def Au (zs:List Int):List Value:=zs.map (Value.int .i64)
theorem Gy (zs:List Int):(Au zs).length=zs.length:=by simp[Au]
structure Ar (w:Wd)(a:Option Addr)(zs:List Int):Prop where
 len:zs.length<=9223372036854775807
 cells:∀ k,k<zs.length->∃ b off,a=some (Aw b off)/\w.cell? (Aw b (off+k))=some (Iv (at0 zs k))
theorem Af {p:Addr}(h:w.cell? p=some v):p.block<w.heap.size:=XF w p h
theorem Ar.below {a:Option Addr}(h:Ar w a zs)(hb:Bw w w'):Ar w' a zs :=
 ⟨h.len,fun k hk=>by
  obtain⟨b,off,rfl,hc⟩:=h.cells k hk;exact⟨b,off,rfl,by rw[hb.cell (p:=(Aw b (off+k))) (Af hc)];exact hc⟩⟩
def JA (w:Wd)(v:Value)(zs:List Int):Prop:=∃ a c,v=.slice a zs.length c/\Ar w a zs
abbrev XO:=@Value.slice.injEq
abbrev VW:=@Nat.zero_add
abbrev WP:=@List.getElem?_map
theorem JB {a:Option Addr}(hl:zs.length<=9223372036854775807)
 (h:w.ownsRow base e 1 (.slice a n c) n (Au zs)):Ar w a zs:=by
 refine⟨hl,fun k hk=>?_⟩;rcases h.2 with ⟨hv,h0⟩|⟨g,cap,cur,hv,_⟩
 . have:=h.1;rw[Gy] at this;omega
 . simp only[XO] at hv;obtain⟨rfl,_,rfl⟩:=hv;refine⟨g,0,rfl,?_⟩;have h1:=h.1;rw[Gy] at h1;have:=h.cellAt k (by omega);rw[VW,this,Au,WP,getElem?_at0 hk];rfl
abbrev Xl:=@List.eq_nil_of_length_eq_zero
theorem NR (hl:zs.length<=9223372036854775807)
 (h:w.ownsRow base e 1 v zs.length (Au zs)):JA w v zs:=by
 rcases h.2 with ⟨rfl,h0⟩|⟨g,cap,cur,rfl,_⟩
 . have:zs=[]:=Xl h0;subst this;exact⟨none,0,rfl,by simp,by simp⟩
 . exact⟨_,_,rfl,JB hl h⟩
def OwnI (w:Wd)(base:Nat)(v:Value)(zs:List Int):Prop:=w.ownsRow base 3 1 v zs.length (Au zs)
theorem OwnI.alloc {w:Wd}{base:Nat}{v:Value}{zs:List Int}(h:OwnI w base v zs)(o:Obj):OwnI (w.alloc o) base v zs:=World.ownsRow.alloc h o
theorem OwnI.drewN {w:Wd}{base:Nat}{v:Value}{zs:List Int}(h:OwnI w base v zs)(n:Nat):OwnI (w.drewN n) base v zs:=h
theorem OwnI.below (h:OwnI w base v zs)(hb:Bw w w'):OwnI w' base v zs:=by
 refine World.ownsRow.kept (row:=none) h ⟨hb.os,hb.tape,hb.output,hb.size,fun k hk _=>hb.block k hk⟩ ?_;cases v.ownBlock<;>simp
theorem OwnI.lt {w:Wd}{base:Nat}{v:Value}{zs:List Int}(h:OwnI w base v zs):∀ k,v.ownBlock=some k->base<=k/\k<w.heap.size:=World.ownsRow.lt h
theorem OwnI.sliceOf (h:OwnI w base v zs)(hl:zs.length<=9223372036854775807):JA w v zs:=NR hl h
theorem Ew (w:Wd)(base:Nat)(hb:base<=w.heap.size):OwnI (w.alloc (.cells #[] 3)) base (.slice (some (Av w.heap.size)) 0 0) [] :=
 World.ownsRow_made w #[] 0 hb (by unfold maxLen;omega) (by simp)
theorem Ey (w:Wd)(base:Nat):OwnI w base (.slice none 0 0) []:=World.ownsRow_nil w base 3 1
def CD (row:Option Nat)(w w':Wd):Prop:=∀ k,k<w.heap.size->some k≠row->w'.heap[k]?=w.heap[k]?
abbrev VL:=@Go.heap_alloc_old
theorem Gz {row:Option Nat}{o:Obj}(h:(w.alloc o).grownBy w' row):CD row w w':=fun k hk hne=>by
 rw[h.block k (by simp;omega) hne,VL w o hk]
theorem Fh {row:Option Nat}(h:w.grownBy w' row):CD row w w':=fun k hk hne=>h.block k hk hne
theorem NS (row:Option Nat)(w:Wd):CD row w w:=fun _ _ _=>rfl
theorem Ar.keep {row:Option Nat}{a:Option Addr}(h:Ar w a zs)(hk:CD row w w')(hne:∀ x,a=some x->some x.block≠row):Ar w' a zs :=
 ⟨h.len,fun k hk'=>by
  obtain⟨b,off,rfl,hc⟩:=h.cells k hk';exact⟨b,off,rfl,Co hc (hk b (Af hc) (hne _ rfl))⟩⟩
abbrev Vr:=@Array.getElem?_eq_some_iff
theorem OwnI.keep {row:Option Nat}(h:OwnI w base v zs)(hk:CD row w w')(hne:∀ k,v.ownBlock=some k->some k≠row):OwnI w' base v zs:=by
 refine⟨h.1,?_⟩;rcases h.2 with hn|⟨g,cap,cur,rfl,hb,g0,rest⟩
 . exact .inl hn
 . refine .inr ⟨g,cap,cur,rfl,hb,?_,rest⟩;rw[hk g (Vr.1 g0).1 (hne g rfl)];exact g0
structure BA (v v':Value)(w w':Wd):Prop where
 keep:CD v.ownBlock w w'
 loc:v'.ownBlock=v.ownBlock\/∃ k,v'.ownBlock=some k/\w.heap.size<=k
theorem BA.ne (h:BA v v' w w')(hne:v.ownBlock≠some g)(hg:g<w.heap.size):v'.ownBlock≠some g:=by
 rcases h.loc with e|⟨k,e,hk⟩
 . rw[e];exact hne
 . rw[e];intro hh;cases hh;omega
theorem DK:(prog.info? 3).map (fun i=>(i.zero,i.size,i.bytes))=some (some (Iv 0),1,8):=by kernel_rfl
abbrev XC:=@info_parts
theorem CO (wr:Wd){o:Oper}(hgd:o.guard=none)(s x:Operand)
 (ho:o.op=.call { callee:=.builtin .append,args:=#[s,x],argTypes:=#[22,22] })
 (base:Nat) (w0:Wd) (v:Value) (zs:List Int) (y:Int) (hs:a.eval s=v) {N:Nat} (hx:a.eval x=.slice (some (Av N)) 1 1)
 (hW:W=wr.alloc (.cells #[Iv y] 3)) (hN:N=wr.heap.size)
 (hown:OwnI wr base v zs) (hlen:zs.length<1099511627776) (hbase:base<=wr.heap.size) (hb:Below base w0 wr)
 (h:∀ v' w',OwnI w' base v' (zs++[y])->Below base w0 w'->base<=w'.heap.size->BA v v' wr w'->wpList prog ops Q rest (a.put o.dst v') w') :
 wpList prog ops Q (o::rest) a W:=by
 obtain⟨i,hi,hz,g1,g2⟩:=XC DK;subst hN;subst hW
 refine wpList_append_own_at (w:=wr.alloc (.cells #[Iv y] 3)) hgd s x 22 ho base 3 i (Iv 0) 1 8 underlying22 hi hz g1 g2 rfl (by decide)
  v zs.length (Au zs) hs (hown.alloc _) (Av wr.heap.size) 1 1 [Iv y] hx rfl (cell_one_new _ _ _) (ints_oneCell .i64 [y]) (by unfold maxLen;omega) (by omega) (by simp;omega) ?_
 intro v' w' h1 h2 _ g0;refine h v' w' ?_ ?_ ?_ ⟨Gz h2,g0.imp id fun e=>⟨_,e,by simp⟩⟩
 ·unfold OwnI;have e1:(zs++[y]).length=zs.length+1:=by simp
  have e2:Au (zs++[y])=Au zs++[Iv y]:=by simp[Au]
  rw[e1,e2];exact h1
 . exact(hb.alloc hbase _).grown h2 (by simp;omega) (fun k hk=>(hown.lt k hk).1)
 . have:=h2.size;simp at this;omega
abbrev XY:=@Nat.eq_zero_or_pos
abbrev VE:=@Nat.lt_or_ge
abbrev VN:=@List.getElem?_eq_none
abbrev Vu:=@Nat.le_refl
theorem De {o:Oper}{wr:Wd}(hgd:o.guard=none)(s x:Operand)
 (ho:o.op=.call { callee:=.builtin .append,args:=#[s,x],argTypes:=#[22,22] })
 (base:Nat) (w0:Wd) (v:Value) (zs ys:List Int) (ao:Option Addr) (c:Nat) (hs:a.eval s=v) (hx:a.eval x=.slice ao ys.length c)
 (hown:OwnI wr base v zs) (hys:Ar wr ao ys) (hlen:zs.length+ys.length<1099511627776) (hbase:base<=wr.heap.size) (hb:Below base w0 wr)
 (hnil:ao=none->c=0)
 (h:∀ v' w',OwnI w' base v' (zs++ys)->Below base w0 w'->base<=w'.heap.size->BA v v' wr w'->wpList prog ops Q rest (a.put o.dst v') w') :
 wpList prog ops Q (o::rest) a wr:=by
 obtain⟨i,hi,hz,g3,g4⟩:=XC DK;cases ao with
 | none =>
   have h0:ys=[]:=by
    apply Xl;rcases XY ys.length with h0|h0
    . exact h0
    . obtain⟨b,off,hh,_⟩:=hys.cells 0 h0;cases hh
   subst h0;obtain rfl:=hnil rfl;refine wpList_append_own_none (w:=wr) hgd s x 22 ho base 3 i 1 underlying22 hi v zs.length (Au zs) hs hown hx ?_;exact h v wr (by simpa using hown) hb hbase ⟨NS _ _,.inl rfl⟩
 | some ad =>
   refine wpList_append_own_at (w:=wr) hgd s x 22 ho base 3 i (Iv 0) 1 8 underlying22 hi hz g3 g4 rfl (by decide)
    v zs.length (Au zs) hs hown ad ys.length c (Au ys) hx (by simp[Au]) ?_ (ints_oneCell .i64 ys) (by unfold maxLen;omega) (by omega) hbase ?_
   ·intro j u hj;have g0:j<ys.length:=by
     rcases VE j ys.length with h'|h'
     . exact h'
     . simp[Au,VN h'] at hj
    obtain⟨b,off,g5,hc⟩:=hys.cells j g0;cases g5;simp[Au,getElem?_at0 g0] at hj;subst hj;have g2:((Aw b off):Addr).add j=(Aw b (off+j)):=by unfold Addr.add;split<;>simp_all
    rw[g2];exact hc
   ·intro v' w' h1 h2 _ g1;refine h v' w' ?_ ?_ ?_ ⟨Fh h2,g1.imp id fun e=>⟨_,e,Vu _⟩⟩
    ·unfold OwnI;have e1:(zs++ys).length=zs.length+ys.length:=by simp
     have e2:Au (zs++ys)=Au zs++Au ys:=by simp[Au]
     rw[e1,e2];exact h1
    . exact hb.grown h2 hbase (fun k hk=>(hown.lt k hk).1)
    . have:=h2.size;omega
theorem OwnI.shape (h:OwnI w base v zs)(hp:0<zs.length) :
 ∃ g cap,v=.slice (some (Av g)) zs.length cap/\base<=g/\g<w.heap.size:=by
 rcases h.2 with ⟨_,h0⟩|⟨g,cap,cur,hv,hg,hh,_⟩
 . omega
 . exact⟨g,cap,hv,hg,(Vr.1 hh).1⟩
theorem OwnI.cell {w:Wd}{base g cap n:Nat}{zs:List Int}(h:OwnI w base (.slice (some (Av g)) n cap) zs)(k:Nat)(hk:k<zs.length) :
 w.cell? (Aw g k)=some (Iv (at0 zs k)):=by
 have hn:n=zs.length:=by
  rcases h.2 with ⟨hv,_⟩|⟨_,_,_,hv,_⟩
  . cases hv
  . cases hv;rfl
 subst hn;have:=World.ownsRow.cellAt h k (by omega);rw[this,Au,WP,getElem?_at0 hk];rfl
theorem OwnI.frozen {w:Wd}{base g cap n:Nat}{zs:List Int}(h:OwnI w base (.slice (some (Av g)) n cap) zs)(k:Nat) :
 w.frozen? (Aw g k)=false:=by
 rcases h.2 with ⟨hv,_⟩|⟨_,_,_,hv,_⟩
 . cases hv
 . cases hv;exact World.ownsRow.frozenAt h k
abbrev VQ:=@List.length_set
abbrev X9:=@List.map_set
theorem OwnI.stored {w:Wd}{base g cap n:Nat}{zs:List Int}(h:OwnI w base (.slice (some (Av g)) n cap) zs)(k:Nat)(y:Int) :
 OwnI (w.setCell (Aw g k) (Iv y)) base (.slice (some (Av g)) n cap) (zs.set k y):=by
 rcases h.2 with ⟨hv,_⟩|⟨_,_,_,hv,_⟩
 . cases hv
 ·cases hv;have:=(World.ownsRow.stored h k (Iv y)).1;unfold OwnI;rw[VQ];have e:Au (zs.set k y)=(Au zs).set k (Iv y):=by simp[Au,X9]
  rw[e];exact this
theorem OwnI.setCell_other (h:OwnI w base v zs){a:Addr}(ha:v.ownBlock≠some a.block)(u:Value):OwnI (w.setCell a u) base v zs:=ownsRow_setCell_other h ha u
theorem BP {o:Nat}{q:Nat}(h:w.cell? (Aw b q)=some u)(hne:g≠b\/o≠q):(w.setCell (Aw g o) v).cell? (Aw b q)=some u:=by
 rw[World.cell?_setCell_other w (Aw g o) (Aw b q) v (by intro e;cases e;simp at hne)];exact h
def SliceIs (w:Wd)(v:Value)(zs:List Int):Prop:=∃ a c,v=.slice a zs.length c/\Ar w a zs/\(a=none->c=0)
theorem SliceIs.below {w w':Wd}{v:Value}{zs:List Int}(h:SliceIs w v zs)(hb:Bw w w'):SliceIs w' v zs:=by
 obtain⟨a,c,rfl,h1,h2⟩:=h;exact⟨a,c,rfl,h1.below hb,h2⟩
theorem OwnI.sliceIs (h:OwnI w base v zs)(hl:zs.length<=9223372036854775807):SliceIs w v zs:=by
 obtain⟨a,c,rfl,h1⟩:=h.sliceOf hl;refine⟨a,c,rfl,h1,fun e=>?_⟩;subst e;rcases h.2 with ⟨hv,h0⟩|⟨g,cap,cur,hv,_⟩
 . simp only[XO] at hv;exact hv.2.2
 . simp only[XO] at hv;cases hv.1
abbrev VI:=@Below.refl
theorem Ah (w:Wd)(o:Obj):Bw w (w.alloc o):=(VI _ _).alloc (Vu _) _
theorem Am (w:Wd)(n:Nat):Bw w (w.drewN n):=Cg (VI _ _) _
theorem NT (w:Wd)(n:Nat)(o:Obj):Bw w ((w.drewN n).alloc o):=(Am w n).alloc (Vu _) _
theorem Fi (w:Wd)(n:Nat)(o:Obj):Bw w ((w.alloc o).drewN n):=Cg (Ah w o) _
theorem Ar.drewN {w:Wd}{a:Option Addr}{zs:List Int}(h:Ar w a zs)(n:Nat):Ar (w.drewN n) a zs:=⟨h.len,h.cells⟩
theorem JC (w:Wd):SliceIs w (.slice none 0 0) []:=⟨none,0,rfl,⟨by simp,by simp⟩,fun _=>rfl⟩
abbrev Vw:=@if_pos
abbrev Vs:=@if_neg
theorem sliceIs_of_row {a:Option Addr}{len:Nat}
 (h:(a=none/\len=0/\cap=0/\zs=[])\/∃ x,a=some x/\len<=cap/\cap<=maxLen/\zs.length=cap/\(∀ i,i<zs.length->w.cell? (x.add i)=some (Iv (zs.getD i 0)))/\∀ n∈zs,(Lit.int .i64 n).wf=true) :
 SliceIs w (.slice a len cap) (zs.take len):=by
 rcases h with ⟨rfl,rfl,rfl,rfl⟩|⟨x,rfl,hl,hm,hz,hc,_⟩
 . exact JC w
 ·have g0:(zs.take len).length=len:=by simp;omega
  refine⟨some x,cap,by rw[g0],⟨by rw[g0];unfold maxLen at hm;omega,fun k hk=>?_⟩,by simp⟩;rw[g0] at hk;have h1:=hc k (by omega);obtain⟨b,off,spot⟩:=x;have g1:∀ k,(⟨b,off,spot⟩:Addr).add k=if k=0 then ⟨b,off,spot⟩ else (Aw b (off+k)):=fun k=>rfl
  have g2:spot=none:=by
   have h0:=hc 0 (by omega);rw[g1,Vw rfl] at h0;cases spot with
   | none=>rfl
   | some s =>
     unfold World.cell? at h0;split at h0<;>simp at h0
  subst g2;refine⟨b,off,rfl,?_⟩;have e:at0 (zs.take len) k=zs.getD k 0:=by simp[at0,List.getD,hk]
  rw[e,<- h1,g1]
  by_cases h0:k=0
  . subst h0;rfl
  . rw[Vs h0]
def AZ (zs:List Int)(x:Int):Int:=match zs.idxOf? x with|some k=>k|none=>-1
theorem JD {x:Int}(h:k<zs.length)(hx:at0 zs k=x)(hn:∀ j,j<k->at0 zs j≠x):AZ zs x=k:=by
 have:zs.idxOf? x=some k:=by
  rw[List.idxOf?_eq_some_iff];refine⟨h,by rw[As h] at hx;exact hx,?_⟩;intro j hj;have:=hn j hj;rw[As (Nat.lt_trans hj h)] at this;exact this
 simp[AZ,this]
abbrev Xb:=@List.mem_iff_getElem
theorem NU {x:Int}(hn:∀ j,j<zs.length->at0 zs j≠x):AZ zs x = -1:=by
 have:zs.idxOf? x=none:=by
  rw[List.idxOf?_eq_none_iff];intro hx;obtain⟨j,hj,rfl⟩:=Xb.1 hx;exact hn j hj (As hj)
 simp[AZ,this]
def A7 (zs:List Int):Bool:=decide ((∀ k,k<zs.length->0<=at0 zs k/\at0 zs k<zs.length)/\∀ i,i<zs.length->∀ k,k<i->at0 zs k≠at0 zs i)
theorem Ch (zs:List Int):A7 zs=true↔(∀ k,k<zs.length->0<=at0 zs k/\at0 zs k<zs.length)/\∀ i,i<zs.length->∀ k,k<i->at0 zs k≠at0 zs i:=by simp[A7]
theorem JE (h:¬ ((∀ k,k<zs.length->0<=at0 zs k/\at0 zs k<zs.length)/\∀ i,i<zs.length->∀ k,k<i->at0 zs k≠at0 zs i)):A7 zs=false:=by
 rw[Bool.eq_false_iff];intro h';exact h ((Ch zs).1 h')
abbrev Xh:=@List.ext_getElem
theorem Ez (hl:xs.length=ys.length)(h:∀ k,k<xs.length->at0 xs k=at0 ys k):xs=ys:=by
 apply Xh hl;intro i h1 h2;have:=h i h1
 rwa [As h1,As h2] at this
def AC (zs:List Int)(i:Int):List Int :=
 if 0<=i/\i+1<zs.length then (zs.set i.toNat (at0 zs (i.toNat+1))).set (i.toNat+1) (at0 zs i.toNat) else zs
theorem Dy (zs:List Int)(i:Int):(AC zs i).length=zs.length:=by unfold AC;split<;>simp
theorem Fj (h:k+1<zs.length):AC zs (k:Int)=(zs.set k (at0 zs (k+1))).set (k+1) (at0 zs k):=by
 unfold AC;rw[Vw (by omega)];simp
theorem NV {i:Int}(h:¬ (0<=i/\i+1<zs.length)):AC zs i=zs:=by unfold AC;rw[Vs h]
def iota (n:Nat):List Int:=(List.range n).map Int.ofNat
theorem Fk (n:Nat):(iota n).length=n:=by simp[iota]
abbrev XM:=@List.range_succ
theorem NW (n:Nat):iota (n+1)=iota n++[(n:Int)]:=by simp[iota,XM]
def E0 (n:Int):List Int:=iota (min n.toNat 64)
theorem NX (zs:List Int)(x:Int) : -1<=AZ zs x:=by unfold AZ;split<;>omega
theorem NY (zs:List Int)(x:Int):AZ zs x<max 1 zs.length:=by
 unfold AZ;split
 ·rename_i k hk
  rw[List.idxOf?_eq_some_iff] at hk;obtain⟨h,_⟩:=hk;omega
 . omega
def bub (zs:List Int)(i:Nat):Nat->List Int×List Int
 | 0=>(zs,[])
 | d+1=>((bub (AC zs ((i+d:Nat):Int)) i d).1,((i+d:Nat):Int)::(bub (AC zs ((i+d:Nat):Int)) i d).2)
abbrev VO:=@List.length_cons
theorem NZ (i d:Nat):∀ zs:List Int,(bub zs i d).2.length=d:=by
 induction d with
 | zero=>intro zs;rfl
 | succ d ih=>intro zs;simp only[bub,VO];rw[ih]
def Dz (zs:List Int)(x:Int)(i:Nat):List Int×List Int:=bub zs i (AZ zs x-i).toNat
def Ci:List Int->List Int->Nat->List Int
 | _,[],_=>[]
 | now,b::bs,i=>(Dz now b i).2++Ci (Dz now b i).1 bs (i+1)
abbrev VT:=@List.drop_eq_getElem_cons
theorem Fl (h:k<zs.length):zs.drop k=at0 zs k::zs.drop (k+1):=by
 rw[VT h,As h]
theorem JF (now bs:List Int)(k:Nat)(h:k<bs.length):Ci now (bs.drop k) k=(Dz now (at0 bs k) k).2++Ci (Dz now (at0 bs k) k).1 (bs.drop (k+1)) (k+1):=by
 rw[Fl h];rfl
def BQ (a b:List Int):List Int:=if A7 a=true/\A7 b=true/\a.length=b.length then Ci a b 0 else []
def Cj (a b:List Int):Int:=if A7 a=true/\A7 b=true then (if a.length=b.length then 0 else 3) else 1
abbrev VS:=@List.getElem?_append_left
theorem G0 (h:j<xs.length):at0 (xs++ys) j=at0 xs j:=by simp[at0,List.getD,VS h]
abbrev Wk:=@List.getElem?_append_right
theorem G1 (h:xs.length<=j):at0 (xs++ys) j=at0 ys (j-xs.length):=by simp[at0,List.getD,Wk h]
theorem E1 (h:j<i):at0 (xs.take i) j=at0 xs j:=by simp[at0,List.getD,h]
abbrev XK:=@List.getElem?_drop
theorem Fm :at0 (xs.drop i) j=at0 xs (i+j):=by simp[at0,List.getD,XK]
abbrev VY:=@List.getElem?_set
theorem JG {y:Int}(h:i<xs.length):at0 (xs.set i y) j=if i=j then y else at0 xs j:=by
 simp only[at0,List.getD,VY]
 by_cases e:i=j
 . subst e;simp[h]
 . simp[e]
theorem DL (h:k+1<zs.length):at0 (AC zs (k:Int)) j=if j=k then at0 zs (k+1) else if j=k+1 then at0 zs k else at0 zs j:=by
 rw[Fj h,JG (by simp;omega),JG (by omega)]
 by_cases e1:j=k
 . subst e1;simp
 ·by_cases e2:j=k+1
  . subst e2;simp
  ·have e3:¬ k=j:=fun e=>e1 e.symm
   have e4:¬ k+1=j:=fun e=>e2 e.symm
   simp[e1,e2,e3,e4]
theorem Oa (n:Nat):∀ l:List Nat,l.Nodup->(∀ x∈l,x<n)->l.length<=n:=by
 induction n with
 | zero =>
   intro l _ h;cases l with
   | nil=>simp
   | cons x l=>have:=h x (by simp);omega
 | succ n ih =>
   intro l hn h
   by_cases hm:n∈l
   ·have h1:=ih (l.erase n) (hn.erase n) (fun x hx=>by
     have h2:=(hn.mem_erase_iff).1 hx;have:=h x h2.2;have:=h2.1;omega)
    rw[List.length_erase_of_mem hm] at h1;omega
   ·have h1:=ih l hn (fun x hx=>by
     have:=h x hx;have:x≠n:=fun e=>hm (e ▸ hx)
     omega)
    omega
abbrev X0:=@List.nodup_cons
theorem Ob {l:List Nat}(hn:l.Nodup)(h:∀ x∈l,x<n)(hl:l.length=n)(hx:x<n):x∈l:=by
 rcases Classical.em (x∈l) with h1|h1
 . exact h1
 ·have:=Oa n (x::l) (X0.2 ⟨h1,hn⟩) (fun y hy=>by
   rcases Wj.1 hy with rfl|hy
   . exact hx
   . exact h y hy)
  simp at this;omega
abbrev X5:=@List.nodup_iff_pairwise_ne
abbrev WE:=@List.pairwise_iff_getElem
abbrev VP:=@List.length_map
abbrev X3:=@List.getElem_map
abbrev VD:=@List.mem_map
theorem G2 (h:A7 zs=true)(hx:x<zs.length):∃ k,k<zs.length/\at0 zs k=(x:Int):=by
 obtain⟨h1,h2⟩:=(Ch zs).1 h;have g0:(zs.map Int.toNat).Nodup:=by
  rw[X5,WE];intro i j hi hj g1;simp only[VP] at hi hj;simp only[X3];have a:=h2 j hj i g1;have b:=(h1 i hi).1;have c:=(h1 j hj).1;rw[As hi] at a b;rw[As hj] at a c;omega
 have hb:∀ y∈zs.map Int.toNat,y<zs.length:=by
  intro y hy;obtain⟨z,hz,rfl⟩:=VD.1 hy;obtain⟨k,hk,rfl⟩:=Xb.1 hz;have:=h1 k hk;rw[As hk] at this;omega
 have hm:=Ob g0 hb (by simp) hx;obtain⟨z,hz,g2⟩:=VD.1 hm;obtain⟨k,hk,rfl⟩:=Xb.1 hz;refine⟨k,hk,?_⟩;have:=(h1 k hk).1;rw[As hk] at this ⊢;omega
theorem E2 (h:A7 zs=true)(hk:k<zs.length):AZ zs (at0 zs k)=k :=
 JD hk rfl fun j hj=>((Ch zs).1 h).2 k hk j hj
def ordR:Nat->Nat->List Int->List (List Int)
 | 0,_,b=>[b]
 | k+1,n,b=>(List.range n).flatMap fun v:Nat=>if (v:Int)∈b then [] else ordR k n (b++[(v:Int)])
def ordL:Nat->List Int->List Int->List (List Int)
 | 0,b,_=>[b]
 | k+1,b,l=>l.flatMap fun v=>ordL k (b++[v]) (l.filter fun x=>decide (x≠v))
def DM (n:Nat)(b:List Int):List Int:=((List.range n).map Int.ofNat).filter fun x=>decide (x∉b)
abbrev X4:=@List.filter_cons
abbrev WQ:=@List.flatMap_cons
theorem JH {α β:Type}(p:α->Bool)(g:α->List β):∀ l:List α,(l.filter p).flatMap g=l.flatMap fun x=>if p x then g x else []
 | []=>rfl
 | x::l=>by
   rw[X4,WQ,<- JH p g l];cases p x<;>simp
abbrev VF:=@List.mem_append
abbrev VB:=@List.mem_singleton
theorem JI (n:Nat):∀ (k:Nat) (b:List Int),ordL k b (DM n b)=ordR k n b
 | 0,_=>rfl
 | k+1,b=>by
   show (DM n b).flatMap _=(List.range n).flatMap _
   unfold DM;rw[JH,List.flatMap_map];congr 1;funext v
   by_cases h:(v:Int)∈b
   . have h':Int.ofNat v∈b:=h;simp[h,h']
   . have h':Int.ofNat v∉b:=h;rw[Vw (by simpa using h'),Vs h,<- JI n k];congr 1;unfold DM;rw[List.filter_filter];congr 1;funext x;simp only[VF,VB,not_or,<- Bool.decide_and];congr 1;exact propext ⟨fun⟨h1,h2⟩=>⟨h2,h1⟩,fun⟨h1,h2⟩=>⟨h2,h1⟩⟩
def PreP (n:Nat)(b:List Int):Prop:=b.Nodup/\∀ x∈b,0<=x/\x<(n:Int)
abbrev Wh:=@List.nodup_append
theorem PreP.snoc {b:List Int}(h:PreP n b){v:Int}(hv:v∉b)(h1:0<=v/\v<(n:Int)):PreP n (b++[v]):=by
 refine⟨Wh.2 ⟨h.1,by simp,fun x hx y hy e=>?_⟩,fun x hx=>?_⟩
 . rw[VB.1 hy] at e;exact hv (e ▸ hx)
 ·rcases VF.1 hx with hx|hx
  . exact h.2 x hx
  . rw[VB.1 hx];exact h1
abbrev XG:=@List.mem_flatMap
abbrev Xs:=@List.mem_range
abbrev Vx:=@List.length_append
abbrev WX:=@List.length_singleton
theorem JJ (n:Nat):∀ (k:Nat) (b t:List Int),PreP n b->t∈ordR k n b->PreP n t/\t.length=b.length+k
 | 0,b,t,hb,h=>by rw[VB.1 h];exact⟨hb,rfl⟩
 | k+1,b,t,hb,h=>by
   obtain⟨v,hv,h2⟩:=XG.1 h;split at h2
   . cases h2
   ·rename_i hnb
    have:=Xs.1 hv;obtain⟨q1,q2⟩:=JJ n k _ t (hb.snoc hnb ⟨by omega,by omega⟩) h2;refine⟨q1,?_⟩;rw[q2,Vx,WX];omega
abbrev WU:=@List.append_nil
abbrev VH:=@List.append_assoc
theorem JK (n:Nat):∀ (k:Nat) (b r:List Int),PreP n (b++r)->r.length=k->b++r∈ordR k n b
 | 0,b,r,_,hr=>by
   rw[List.length_eq_zero_iff.1 hr,WU];exact VB.2 rfl
 | k+1,b,[],_,hr=>by simp at hr
 | k+1,b,x::r,h,hr=>by
   have hx:=h.2 x (by simp);refine XG.2 ⟨x.toNat,Xs.2 (by omega),?_⟩;have e:((x.toNat:Nat):Int)=x:=by omega
   rw[e,Vs]
   . have:=JK n k (b++[x]) r (by rw[VH];exact h) (by simpa using hr);rw[VH] at this;exact this
   . intro hm;exact(Wh.1 h.1).2.2 x hm x (by simp) rfl
abbrev VG:=@List.getElem_mem
theorem G3 {t:List Int}(h:PreP n t)(hl:t.length=n):A7 t=true:=by
 rw[Ch];refine⟨fun i hi=>?_,fun i hi j hj e=>?_⟩
 . rw[As hi];have:=h.2 _ (VG hi);omega
 . rw[As hi,As (show j<t.length by omega)] at e;exact WE.1 h.1 j i (by omega) hi hj e
abbrev WW:=@List.getElem_of_mem
theorem E3 {t:List Int}(h:A7 t=true)(hl:t.length=n):PreP n t:=by
 have h1:=(Ch t).1 h;refine⟨WE.2 fun i j hi hj g0 e=>?_,fun x hx=>?_⟩
 . have:=h1.2 j hj i g0;rw[As hi,As hj] at this;exact this e
 . obtain⟨i,hi,rfl⟩:=WW hx;have:=h1.1 i hi;rw[As hi] at this;omega
inductive Role where
 | man|store|levels|vars|level|pool|slots|taken|free|tabs|tab (v:Nat)|tmap (v:Nat)|counts|memo|entries|handles|waits
 deriving DecidableEq
variable {R:Role->Prop}
abbrev Own:=Nat->Option Role
variable {o' o'' o1 o2:Own}
def Ac (o:Own)(w:Wd):Prop:=∀ k r,o k=some r->k<w.heap.size
structure Chg (R:Role->Prop)(o o':Own)(w w':Wd):Prop where
 os:w'.os=w.os
 tape:w'.tape=w.tape
 output:w'.output=w.output
 size:w.heap.size<=w'.heap.size
 block:∀ k,k<w.heap.size->(∀ r,o k=some r->¬ R r)->w'.heap[k]?=w.heap[k]?
 ext:∀ k r,o k=some r->o' k=some r
 new:∀ k,o' k≠o k->w.heap.size<=k/\∃ r,o' k=some r/\R r
section
variable {R':Role->Prop}{o:Own}{r:Role}
theorem Chg.refl (R:Role->Prop)(o:Own)(w:Wd):Chg R o o w w:=⟨rfl,rfl,rfl,Vu _,fun _ _ _=>rfl,fun _ _ h=>h,fun _ h=>(h rfl).elim⟩
abbrev Vy:=@Nat.le_trans
abbrev VJ:=@Nat.lt_of_lt_of_le
theorem Chg.trans (h:Chg R o o' w w')(h':Chg R o' o'' w' w''):Chg R o o'' w w'':=by
 refine⟨h'.os.trans h.os,h'.tape.trans h.tape,h'.output.trans h.output,Vy h.size h'.size,fun k hk hr=>?_,fun k r hr=>h'.ext k r (h.ext k r hr),fun k hk=>?_⟩
 ·have g0:k<w'.heap.size:=VJ hk h.size;refine(h'.block k g0 fun q hq=>?_).trans (h.block k hk hr)
  by_cases e:o' k=o k
  . rw[e] at hq;exact hr q hq
  . have:=(h.new k e).1;omega
 ·by_cases e:o'' k=o' k
  . rw[e] at hk ⊢;exact h.new k hk
  . have:=h'.new k e;exact⟨Vy h.size this.1,this.2⟩
theorem Chg.mono (h:Chg R o o' w w')(hR:∀ r,R r->R' r):Chg R' o o' w w' :=
 ⟨h.os,h.tape,h.output,h.size,fun k hk hr=>h.block k hk fun r hr' hh=>hr r hr' (hR r hh),h.ext,fun k hk=>⟨(h.new k hk).1,(h.new k hk).2.imp fun r hh=>⟨hh.1,hR r hh.2⟩⟩⟩
theorem Chg.drewN (h:Chg R o o' w w')(n:Nat):Chg R o o' w (w'.drewN n):=⟨h.os,h.tape,h.output,h.size,h.block,h.ext,h.new⟩
theorem Chg.alloc (h:Chg R o o' w w')(ob:Obj):Chg R o o' w (w'.alloc ob) :=
 ⟨h.os,h.tape,h.output,by simp;have:=h.size;omega,fun k hk hr=>(VL w' ob (VJ hk h.size)).trans (h.block k hk hr),h.ext,h.new⟩
abbrev XZ:=@Below.heap_setCell
theorem Chg.setCell (h:Chg R o o' w w'){p:Addr}{r:Role}(hp:o' p.block=some r)(hr:R r)(u:Value):Chg R o o' w (w'.setCell p u):=by
 refine⟨h.os,h.tape,h.output,by simp[World.setCell];exact h.size,fun k hk g0=>?_,h.ext,h.new⟩;have g1:k≠p.block:=by
  rintro rfl
  by_cases e:o' p.block=o p.block
  . rw[e] at hp;exact g0 r hp hr
  . have:=(h.new _ e).1;omega
 rw[XZ _ _ _ _ g1];exact h.block k hk g0
theorem Chg.setCell_new (h:Chg R o o' w w'){p:Addr}(hp:w.heap.size<=p.block)(u:Value):Chg R o o' w (w'.setCell p u):=by
 refine⟨h.os,h.tape,h.output,by simp[World.setCell];exact h.size,fun k hk g0=>?_,h.ext,h.new⟩;rw[XZ _ _ _ _ (by omega)];exact h.block k hk g0
theorem Chg.of_below (hb:Bw w w')(R:Role->Prop)(o:Own):Chg R o o w w' :=
 ⟨hb.os,hb.tape,hb.output,hb.size,fun k hk _=>hb.block k hk,fun _ _ h=>h,fun _ h=>(h rfl).elim⟩
def AI (o:Own)(b:Nat)(r:Role):Own:=fun k=>if k=b then some r else o k
theorem B0 (o:Own)(b:Nat)(r:Role):AI o b r b=some r:=by simp[AI]
theorem CE {q:Role}(hlt:Ac o w)(hb:w.heap.size<=b)(h:o k=some q):AI o b r k=some q:=by
 have:=hlt k q h;simp only[AI,Vs (show k≠b by omega)];exact h
theorem Chg.allocR (h:Chg R o o' w w')(hlt:Ac o' w')(ob:Obj)(hr:R r):Chg R o (AI o' w'.heap.size r) w (w'.alloc ob):=by
 have h2:=h.alloc ob;refine⟨h2.os,h2.tape,h2.output,h2.size,h2.block,fun k q hq=>CE hlt (Vu _) (h.ext k q hq),fun k hk=>?_⟩
 by_cases e:k=w'.heap.size
 . subst e;exact⟨h.size,r,B0 _ _ _,hr⟩
 . simp only[AI,Vs e] at hk ⊢;exact h.new k hk
abbrev VK:=@World.size_alloc
theorem Ac.allocR (h:Ac o w)(ob:Obj)(r:Role):Ac (AI o w.heap.size r) (w.alloc ob):=by
 intro k q hq;simp only[VK]
 by_cases e:k=w.heap.size
 . omega
 . simp only[AI,Vs e] at hq;have:=h k q hq;omega
theorem Ac.mono (h:Ac o w)(hs:w.heap.size<=w'.heap.size):Ac o w':=fun k r hr=>VJ (h k r hr) hs
theorem Chg.grown (h:Chg R o o' w w'){row:Option Nat}(hg:w'.grownBy w'' row)(hrow:∀ g,row=some g->∃ r,o' g=some r/\R r):Chg R o o' w w'':=by
 refine h.trans ⟨hg.os,hg.tape,hg.output,hg.size,fun k hk hr=>hg.block k hk fun e=>?_,fun _ _ h=>h,fun _ h=>(h rfl).elim⟩;obtain⟨r,h1,h2⟩:=hrow k e.symm;exact hr r h1 h2
theorem Chg.same (h:Chg R o o' w w')(hlt:Ac o w){r:Role}(hb:o b=some r)(hr:¬ R r):w'.heap[b]?=w.heap[b]? :=
 h.block b (hlt b r hb) fun q hq=>by rw[hb] at hq;cases hq;exact hr
theorem Chg.alien (h:Chg R o o' w w')(hlt:b<w.heap.size)(hb:o b=none):w'.heap[b]?=w.heap[b]? :=
 h.block b hlt fun q hq=>by rw[hb] at hq;cases hq
theorem Chg.alien' (h:Chg R o o' w w')(hlt:b<w.heap.size)(hb:o b=none):o' b=none:=by
 by_cases e:o' b=o b
 . rw[e];exact hb
 . have:=(h.new b e).1;omega
theorem Chg.cell (h:Chg R o o' w w'){p:Addr}{v:Value}(hc:w.cell? p=some v)(hb:o p.block=none):w'.cell? p=some v :=
 (Wl (w:=w) (h.alien (XF w p hc) hb)).trans hc
structure RowR (o:Own)(w:Wd)(r:Role)(e:TypeId)(size:Nat)(v:Value)(n:Nat)(xs:List Value):Prop where
 len:xs.length=n*size
 ex:(v=.slice none 0 0/\n=0)\/∃ g cap cur,v=.slice (some (Av g)) n cap/\o g=some r/\w.heap[g]?=some (.cells cur e (0,0))/\n<=cap/\cap<=maxLen/\cap*size<=cur.size/\cur.toList.take (n*size)=xs
variable {e:TypeId}{size:Nat}{xs:List Value}
theorem RowR.nil (o:Own)(w:Wd)(r:Role)(e:TypeId)(size:Nat):RowR o w r e size (.slice none 0 0) 0 []:=⟨by simp,.inl ⟨rfl,rfl⟩⟩
theorem RowR.keep (h:RowR o w r e size v n xs)(hk:∀ g,o g=some r->w'.heap[g]?=w.heap[g]?)(ho:∀ g,o g=some r->o' g=some r):RowR o' w' r e size v n xs:=by
 refine⟨h.len,h.ex.imp id ?_⟩;rintro⟨g,cap,cur,h1,h2,h3,rest⟩;exact⟨g,cap,cur,h1,ho g h2,(hk g h2).trans h3,rest⟩
theorem RowR.chg (h:RowR o w r e size v n xs)(hc:Chg R o o' w w')(hlt:Ac o w)(hr:¬ R r):RowR o' w' r e size v n xs :=
 h.keep (fun g hg=>hc.same hlt hg hr) (fun g hg=>hc.ext g r hg)
theorem RowR.shape (h:RowR o w r e size v n xs)(hn:0<n):∃ g cap,v=.slice (some (Av g)) n cap/\o g=some r/\n<=cap/\cap<=maxLen:=by
 rcases h.ex with ⟨_,h0⟩|⟨g,cap,cur,h1,h2,_,h3,h4,_⟩
 . omega
 . exact⟨g,cap,h1,h2,h3,h4⟩
theorem RowR.slice (h:RowR o w r e size v n xs):∃ a cap,v=.slice a n cap/\n<=cap/\cap<=maxLen/\(a=none->cap=0)/\(∀ x,a=some x->∃ g,x=(Av g)/\o g=some r):=by
 rcases h.ex with ⟨h1,h0⟩|⟨g,cap,cur,h1,h2,_,h3,h4,_⟩
 . exact⟨none,0,by rw[h1,h0],by omega,by omega,fun _=>rfl,by simp⟩
 . exact⟨_,cap,h1,h3,h4,by simp,fun x hx=>⟨g,by cases hx;rfl,h2⟩⟩
abbrev Vt:=@cell_of_row
abbrev Ya:=@List.getElem?_take
theorem RowR.cell {g cap m:Nat}(h:RowR o w r e size (.slice (some (Av g)) m cap) n xs)(k:Nat)(hk:k<xs.length):w.cell? (Aw g k)=xs[k]?:=by
 rcases h.ex with ⟨h1,_⟩|⟨g',cap',cur,h1,_,h3,_,_,h4,h5⟩
 . cases h1
 ·cases h1;rw[Vt w g k cur e (0,0) h3];have:xs[k]?=(cur.toList.take (n*size))[k]?:=by rw[h5]
  rw[this,Ya,Vw (by rw[<- h.len];exact hk)];simp
theorem RowR.frozen {g cap m:Nat}(h:RowR o w r e size (.slice (some (Av g)) m cap) n xs)(k:Nat):w.frozen? (Aw g k)=false:=by
 rcases h.ex with ⟨h1,_⟩|⟨g',cap',cur,h1,_,h3,_⟩
 . cases h1
 . cases h1;simp[World.frozen?,h3]
theorem RowR.owner {m:Nat}(h:RowR o w r e size (.slice (some (Av g)) m cap) n xs):o g=some r:=by
 rcases h.ex with ⟨h1,_⟩|⟨g',cap',cur,h1,h2,_⟩
 . cases h1
 . cases h1;exact h2
abbrev XN:=@Array.getElem?_modify
abbrev Wy:=@if_true
theorem RowR.stored {m:Nat}(h:RowR o w r e size (.slice (some (Av g)) m cap) n xs)(k:Nat)(u:Value) :
 RowR o (w.setCell (Aw g k) u) r e size (.slice (some (Av g)) m cap) n (xs.set k u):=by
 refine⟨by rw[VQ];exact h.len,?_⟩;rcases h.ex with ⟨h1,_⟩|⟨g',cap',cur,h1,h2,h3,h4,h5,h6,h7⟩
 . cases h1
 ·cases h1;refine .inr ⟨g,cap,cur.setIfInBounds k u,rfl,h2,?_,h4,h5,by simpa using h6,?_⟩
  . simp only[World.setCell,XN,Wy,h3];rfl
  . rw[Array.toList_setIfInBounds,List.take_set,h7]
theorem RowR.setCell_other (h:RowR o w r e size v n xs){p:Addr}(hp:o p.block≠some r)(u:Value):RowR o (w.setCell p u) r e size v n xs :=
 h.keep (fun g hg=>XZ _ _ _ _ (by rintro rfl;exact hp hg)) (fun _ h=>h)
abbrev Wm:=@Nat.mul_le_mul_right
abbrev Wz:=@List.length_take
theorem RowR.shrink {m m' cap':Nat}(h:RowR o w r e size (.slice (some (Av g)) m cap) n xs)(hm:m'<=n)(hc:cap'<=cap)(hmc:m'<=cap') :
 RowR o w r e size (.slice (some (Av g)) m' cap') m' (xs.take (m'*size)):=by
 have g0:m'*size<=n*size:=Wm _ hm;refine⟨by rw[Wz,h.len];omega,?_⟩;rcases h.ex with ⟨h1,_⟩|⟨g',cap0,cur,h1,h2,h3,h4,h5,h6,h7⟩
 . cases h1
 . cases h1;refine .inr ⟨g,cap',cur,rfl,h2,h3,hmc,by omega,Vy (Wm _ hc) h6,?_⟩;rw[<- h7,List.take_take];congr 1;omega
abbrev Xm:=@Nat.add_mul
abbrev Vv:=@heap_alloc_new
abbrev WR:=@List.size_toArray
abbrev We:=@run_underlying
abbrev Ws:=@List.nil_append
abbrev XH:=@List.length_drop
theorem RowR.append (h:RowR o w r e size v n xs)(hlt:Ac o w)(t ty:TypeId)(i:TypeInfo)(z:Value)(bytes:Nat)(ht:P.underlying t=some (.slice e))(hi:P.info? e=some i)(hz:i.zero=some z)
 (hsize:i.size=size) (hby:i.bytes=bytes) (hzs:z.cells.size=size) (hsz:0<size)
 (a:Addr) (m c:Nat) (news:List Value) (hl:news.length=m*size) (hnews:∀ j u,news[j]?=some u->w.cell? (a.add j)=some u) (h1:∀ u∈news,u.oneCell'=true)
 (h63:n+m<=maxLen) (hbytes:(n+m)*bytes<=140737488355328) :
 ∃ v' w' o',(Builtin.append_ #[t,t] ty #[v,.slice (some a) m c]).run P w=.ok v' w'/\RowR o' w' r e size v' (n+m) (xs++news)/\Chg (· = r) o o' w w'/\Ac o' w':=by
 subst hsize;subst hby;have g9:n+m<=9223372036854775807:=by simp only[maxLen] at h63;omega
 have g1:(xs++news).length=(n+m)*i.size:=by rw[Vx,h.len,hl,Xm]
 have grown:∀ (old:Nat),
  RowR (AI o w.heap.size r) (w.drew.alloc (.cells (xs.toArray++news.toArray++Builtin.zeroCells z.cells (grownCap w (n+m) old e-(n+m))) e)) r e i.size
   (.slice (some (Av w.heap.size)) (n+m) (grownCap w (n+m) old e)) (n+m) (xs++news) /\
  Chg (· = r) o (AI o w.heap.size r) w (w.drew.alloc (.cells (xs.toArray++news.toArray++Builtin.zeroCells z.cells (grownCap w (n+m) old e-(n+m))) e)) /\
  Ac (AI o w.heap.size r) (w.drew.alloc (.cells (xs.toArray++news.toArray++Builtin.zeroCells z.cells (grownCap w (n+m) old e-(n+m))) e)):=by
  intro old;have ga:=grownCap_ge w (n+m) old e;have g3:grownCap w (n+m) old e<=maxLen:=grownCap_le_maxLen w (n+m) old e h63;refine⟨⟨g1,.inr ⟨w.heap.size,_,_,rfl,B0 _ _ _,Vv w.drew _,ga,g3,?_,?_⟩⟩,(((Chg.refl (· = r) o w).drewN 1).allocR (w':=w.drewN 1) hlt _ rfl),Ac.allocR (w:=w.drewN 1) hlt _ r⟩
  . simp only[Array.size_append,WR,size_zeroCells,hzs,h.len,hl,<- Xm];exact Wm _ (by omega)
  . simp only[Array.toList_append,VH];rw[<- VH,<- g1];exact List.take_left
 rcases h.ex with ⟨rfl,rfl⟩|⟨g,cap,cur,rfl,g6,hg,gd,g3,gc,g4⟩
 ·have hx:xs=[]:=Xl (by simpa using h.len);subst hx
  by_cases hm:m=0
  . subst hm;have hn:news=[]:=Xl (by simpa using hl);subst hn;refine⟨.slice none 0 0,w,o,?_,RowR.nil o w r e i.size,Chg.refl _ _ _,hlt⟩;simp[Builtin.append_,We ht,sizeOf,typeInfo,hi,Builtin.lenOf,Builtin.firstCells,loadCells,loadCellsFrom]
  . have hr:=run_append_nil (P:=P) w t ty e i z ht hi hz a m c news hl hnews (by omega) (by omega) (by have hb:=hbytes;simp only[VW] at hb;omega);have g2:=grown 0;simp only[VW,Ws,Array.empty_append] at g2 ⊢;exact⟨_,_,_,hr,g2⟩
 ·by_cases g0:n+m<=cap
  ·have g7:n*i.size+news.length<=cur.size:=by rw[hl,<- Xm];exact Vy (Wm _ g0) gc
   have hr:=run_append_room (P:=P) w t ty e i ht hi g n cap cur hg a m c news hl hnews h1 g0 g7;refine⟨_,_,o,hr,⟨g1,.inr ⟨g,cap,_,rfl,g6,setRow_heap w g cur _ e _ hg,g0,g3,?_,?_⟩⟩,⟨rfl,rfl,rfl,by simp,fun k _ hk=>setRow_other w g k _ (by rintro rfl;exact hk r g6 rfl),fun _ _ h=>h,fun _ h=>(h rfl).elim⟩,fun k q hq=>by have:=hlt k q hq;simpa using this⟩
   . simp only[WR,Vx,Wz,XH,Array.length_toList];omega
   . rw[g4,<- g1];exact List.take_left
  ·have g5:∀ j u,xs[j]?=some u->w.cell? (((Av g):Addr).add j)=some u:=by
    intro j u hu;have g8:((Av g):Addr).add j=(Aw g j):=by unfold Addr.add;split<;>simp_all
    have hj:j<xs.length:=by
     rcases VE j xs.length with h'|h'
     . exact h'
     . rw[VN h'] at hu;cases hu
    rw[g8,h.cell j hj];exact hu
   have hr:=run_append_grow (P:=P) w t ty e i z ht hi hz (Av g) n cap xs h.len g5 a m c news hl hnews (by omega) (by omega) (growslice_fits (by omega) hbytes);have g2:=grown cap;exact⟨_,_,_,hr,g2⟩
end
theorem BV {α:Type}(f:α->List Value)(s:Nat)(hf:∀ x,(f x).length=s):∀ (l:List α),(l.flatMap f).length=l.length*s
 | []=>by simp
 | x::l=>by rw[WQ,Vx,hf,BV f s hf l,VO,Xm];omega
theorem D0 {α:Type}(f:α->List Value)(s:Nat)(hf:∀ x,(f x).length=s):∀ (l:List α) (k j:Nat) (x:α),l[k]?=some x->j<s->(l.flatMap f)[k*s+j]?=(f x)[j]?
 | [],k,j,x,h,_=>by simp at h
 | y::l,0,j,x,h,hj=>by
   simp at h;subst h
   rw[WQ,VS (by rw[hf];omega)];congr 1;omega
 | y::l,k+1,j,x,h,hj=>by
   simp at h;rw[WQ,Wk (by rw[hf,Xm];omega),hf,<- D0 f s hf l k j x h hj];congr 1;rw[Xm];omega
open Go.RowKit Go.Shelf
structure Wr (M:Nat->Prop)(w w':Wd):Prop where
 os:w'.os=w.os
 tape:w'.tape=w.tape
 output:w'.output=w.output
 size:w.heap.size<=w'.heap.size
 keep:∀ k,k<w.heap.size->¬ M k->w'.heap[k]?=w.heap[k]?
theorem Wr.refl (M:Nat->Prop)(w:Wd):Wr M w w:=⟨rfl,rfl,rfl,Vu _,fun _ _ _=>rfl⟩
theorem Wr.trans {M M' N:Nat->Prop}{w w' w'':Wd}(h:Wr M w w')(h':Wr M' w' w'')(hM:∀ k,k<w.heap.size->M k->N k)(hM':∀ k,k<w.heap.size->M' k->N k):Wr N w w'' :=
 ⟨h'.os.trans h.os,h'.tape.trans h.tape,h'.output.trans h.output,Vy h.size h'.size,fun k hk hn=>(h'.keep k (VJ hk h.size) (fun e=>hn (hM' k hk e))).trans (h.keep k hk (fun e=>hn (hM k hk e)))⟩
theorem Wr.mono {N:Nat->Prop}(h:Wr M w w')(hM:∀ k,M k->N k):Wr N w w':=⟨h.os,h.tape,h.output,h.size,fun k hk hn=>h.keep k hk (fun e=>hn (hM k e))⟩
theorem Wr.drew {M:Nat->Prop}{w w':Wd}(h:Wr M w w'):Wr M w w'.drew:=⟨h.os,h.tape,h.output,h.size,h.keep⟩
abbrev W9:=@Below.heap_alloc
theorem Wr.alloc {M:Nat->Prop}{w w':Wd}(h:Wr M w w')(o:Obj):Wr M w (w'.alloc o) :=
 ⟨h.os,h.tape,h.output,by simp;have:=h.size;omega,fun k hk hn=>(W9 w' o k (VJ hk h.size)).trans (h.keep k hk hn)⟩
theorem Wr.setCell {M:Nat->Prop}{w w':Wd}(h:Wr M w w'){p:Addr}(hp:M p.block\/w.heap.size<=p.block)(u:Value):Wr M w (w'.setCell p u) :=
 ⟨h.os,h.tape,h.output,by simp[World.setCell];exact h.size,fun k hk hn=>(XZ _ _ _ _ (by rintro rfl;rcases hp with hp|hp;exact hn hp;omega)).trans (h.keep k hk hn)⟩
abbrev WA:=@World.putObj_heap_other
theorem Wr.putObj {M:Nat->Prop}{w w':Wd}(h:Wr M w w'){l:Nat}(hl:M l\/w.heap.size<=l)(o:Obj):Wr M w (w'.putObj l o) :=
 ⟨h.os,h.tape,h.output,by simp;exact h.size,fun k hk hn=>(WA (by rintro rfl;rcases hl with hl|hl;exact hn hl;omega)).trans (h.keep k hk hn)⟩
theorem Wr.of_below (h:Bw w w')(M:Nat->Prop):Wr M w w':=⟨h.os,h.tape,h.output,h.size,fun k hk _=>h.block k hk⟩
theorem Wr.below (h:Wr M w w')(hM:∀ k,M k->n₀<=k)(hn:n₀<=w.heap.size):Below n₀ w w' :=
 ⟨h.os,h.tape,h.output,h.size,fun k hk=>h.keep k (by omega) (fun e=>by have:=hM k e;omega)⟩
theorem Wr.of_grown {row:Option Nat}(h:w.grownBy w' row)(M:Nat->Prop)(hM:∀ k,row=some k->M k):Wr M w w' :=
 ⟨h.os,h.tape,h.output,h.size,fun k hk hn=>h.block k hk (fun e=>hn (hM k e.symm))⟩
section
variable {F:Fence}{α:Type}
def Fo (n₀:Nat)(J:List α->(Nat->Prop)->Wd->Prop):Prop:=∀ pre M W,J pre M W->∀ k,M k->n₀<=k/\k<W.heap.size
def Minds (n₀:Nat)(J:List α->(Nat->Prop)->Wd->Prop):Prop:=∀ pre M W W',J pre M W->Wr (fun k=>n₀<=k/\¬ M k) W W'->J pre M W'
def Gives (F:Fence)(n d:Nat)(P:Program)(g:Nat)(lb:Array Value)(encs:α->Array Value)(n₀:Nat)(Bx:Nat->Prop)(xs:List α)(w:Wd):Prop :=
 ∀ (l:Nat) (J:List α->(Nat->Prop)->Wd->Prop) (M:Nat->Prop) (W:Wd),Fo n₀ J->Minds n₀ J->Wr (fun k=>n₀<=k/\¬ Bx k) w W->(∀ k,Bx k->¬ M k) ->
  (∀ pre x M W1,J pre M W1->(∃ suf,pre++x::suf=xs)->YieldAt F (n-1-d) P l (encs x) W1 fun e W' =>
   e=.returned (.bool true)/\∃ M',J (pre++[x]) M' W'/\Wr M W1 W'/\∀ k,M' k->M k\/W1.heap.size<=k) ->
  J [] M W ->
  CallsIn F n P g (#[.func (.yield l) #[] #[]]++lb) W fun e W'=>(∃ v,e=.returned v)/\∃ M',J xs M' W'/\Wr (fun k=>n₀<=k) W W'/\∀ k,M' k->M k\/W.heap.size<=k
abbrev Yf:=@World.putObj_heap_same
theorem JL {g:Operand}{ps:Array Tmp}{assign body:Code}(hro:F.round=none)(h1:1<=n){lb:Array Value}(hg:a.eval g=.func (.func gf) #[] lb)
 (hFg:F.fn gf) (eg:∀ args w,(callFunc gf args).run P w=.ok (.enter gf args) w) {encs:α->Array Value} {n₀:Nat} {Bx:Nat->Prop} {xs:List α} {d:Nat} (hseq:Gives F (n-1) d P gf lb encs n₀ Bx xs w) (hn0:n₀<=w.heap.size)
 (hBx:∀ k,Bx k->k<w.heap.size) (hps:∀ x,(encs x).size=ps.size) (I:List α->(Nat->Prop)->Wd->Prop) (hOw:Fo n₀ I) (hMi:Minds n₀ I) (M0:Nat->Prop) (hM0:∀ k,Bx k->¬ M0 k) (h0:I [] M0 w)
 (Ax:α->Act->Wd->Wd->Prop) (hAx:∀ x a' W W1 W2 l,l<W.heap.size->Ax x a' W W1->Wr (· = l) W1 W2->Ax x a' W W2)
 (hassign:∀ (l:Nat) (pre:List α) (x:α) (M:Nat->Prop) (W:Wd) (K:Act->Wd->Prop),I pre M W->(∀ a' W',Wr (fun _=>False) W W'->Ax x a' W W'->K a' W') ->
  assign.wpIn (F.inRound l) (n-1-1-d) P (Exit.then K (fun _ _ _=>False)) { tmps:=(ps.zip (encs x)).foldl (fun t (p,v)=>t.setIfInBounds p v) a.tmps,defers:=[] } W)
 (hbody:∀ (l:Nat) (pre:List α) (x:α) (a':Act) (M:Nat->Prop) (W0 W:Wd),I pre M W->Ax x a' W0 W->W0.heap.size<=W.heap.size->w.heap.size<=W0.heap.size->(∃ suf,pre++x::suf=xs)->body.wpIn (F.inRound l) (n-1-1-d) P
  (fun e _ W'=>match e with|.normal=>∃ M',I (pre++[x]) M' W'/\Wr (fun k=>M k\/W0.heap.size<=k) W W'/\(∀ k,M' k->M k\/W0.heap.size<=k)|_=>False) a' W)
 (hdone:∀ (D:Nat) (M:Nat->Prop) (W:Wd),w.heap.size<=D->¬ M D->I xs M W->(∀ k,M k->M0 k\/w.heap.size<=k)->Wr (fun k=>n₀<=k) w W->W.heap[D]?=some (.deferred (some []))->Q .normal { a with defers:={ target:=.collected D,args:=#[] }::a.defers } W) :
 (Code.rangeFunc g ps assign body).wpIn F n P Q a w:=by
 refine wpIn_rangeFunc ?_;intro fn gn;rw[hro]
 let rec0:LoopState->Loop:=fun st=>{ state:=st,pending:=none,fn,tmps:=a.tmps,params:=ps,assign,body,defers:=w.heap.size }
 obtain⟨W1,g1⟩:=Ex ((w.alloc (.deferred (some []))).alloc (.loop (rec0 .ready)));have gt:W1.heap[w.heap.size+1]?=some (.loop (rec0 .ready)):=by
  rw[g1];have:=World.alloc_heap_new (w.alloc (.deferred (some []))) (.loop (rec0 .ready))
  rwa [VK] at this
 have gv:W1.heap[w.heap.size]?=some (.deferred (some [])):=by
  rw[g1];exact(W9 _ _ _ (by simp)).trans (World.alloc_heap_new w _)
 have g5:∀ N:Nat->Prop,Wr N w W1:=fun N=>by rw[g1];exact((Wr.refl N w).alloc _).alloc _
 have g2:=hOw [] M0 w h0;have gu:I [] M0 W1:=hMi _ _ _ _ h0 (g5 _)
 refine⟨w.heap.size+1,[{ target:=.collected w.heap.size,args:=#[] }],W1,{ target:=.fn (.func gf) lb,args:=#[.func (.yield (w.heap.size+1)) #[] #[]] },W1,gf,
  #[.func (.yield (w.heap.size+1)) #[] #[]]++lb,W1,?_,?_,?_,?_,fun _=>h1,?_⟩
 . rw[g1];exact run_enterLoop_outer _ _ _ _ _
 . simp only[resolve,hg];simp[go_sem]
 . intro f' gc;simp[Target.leads] at gc;subst gc;exact hFg
 . simp[invoke,go_sem,eg]
 refine(hseq (w.heap.size+1)
  (fun pre N W=>∃ M,I pre M W/\(∀ k,N k↔(M k\/k=w.heap.size+1\/k=w.heap.size))/\¬ M (w.heap.size+1)/\¬ M w.heap.size/\(∀ k,M k->M0 k\/w.heap.size<=k) /\
   W.heap[w.heap.size+1]?=some (.loop (rec0 .ready))/\W.heap[w.heap.size]?=some (.deferred (some [])))
  (fun k=>M0 k\/k=w.heap.size+1\/k=w.heap.size) W1 ?_ ?_ (g5 _) ?_ ?_ ?_).mono ?_
 ·rintro pre N W ⟨M,hi,hN,_,_,_,hl,hd⟩ k hk;rcases(hN k).1 hk with hk|hk|hk
  . exact hOw _ _ _ hi k hk
  . subst hk;exact⟨by omega,(Vr.1 hl).1⟩
  . subst hk;exact⟨hn0,(Vr.1 hd).1⟩
 ·rintro pre N W W' ⟨M,hi,hN,h2,h3,h4,hl,hd⟩ hw;refine⟨M,hMi _ _ _ _ hi ?_,hN,h2,h3,h4,?_,?_⟩
  . exact⟨hw.os,hw.tape,hw.output,hw.size,fun k hk hn=>hw.keep k hk (fun⟨a,b⟩=>hn ⟨a,fun e=>b ((hN k).2 (.inl e))⟩)⟩
  . exact(hw.keep _ (Vr.1 hl).1 (fun⟨_,b⟩=>b ((hN _).2 (.inr (.inl rfl))))).trans hl
  . exact(hw.keep _ (Vr.1 hd).1 (fun⟨_,b⟩=>b ((hN _).2 (.inr (.inr rfl))))).trans hd
 ·intro k hk hm;have:=hBx k hk;rcases hm with hm|hm|hm
  . exact hM0 k hk hm
  . omega
  . omega
 ·rintro pre x N W ⟨M,hi,hN,h2,h3,h4,hl,hd⟩ gd;have g9:w.heap.size+1<W.heap.size:=(Vr.1 hl).1;have hy:=run_yield (P:=P) (args:=encs x) hl (hps x);refine⟨fn,_,assign,body,hy,roundIn_of_wpIn gn (hassign _ pre x M W _ hi ?_)⟩;intro a' Wa g0 gr;have gj:=(g0.keep _ g9 (fun h=>h)).trans hl;have gp:=(g0.keep _ (by omega) (fun h=>h)).trans hd;have g6:w.heap.size+1<Wa.heap.size:=by have:=g0.size;omega
  refine⟨_,run_beginRound gj rfl,?_⟩;have gl:I pre M Wa:=hMi _ _ _ _ hi (g0.mono (fun _ h=>h.elim));have g7:Wr (· = w.heap.size+1) Wa (Wa.putObj (w.heap.size+1) (.loop { rec0 .ready with state:=.busy })):=(Wr.refl (· = w.heap.size+1) Wa).putObj (l:=w.heap.size+1) (.inl rfl) _;have gk:I pre M (Wa.putObj (w.heap.size+1) (.loop { rec0 .ready with state:=.busy })):=hMi _ _ _ _ gl (g7.mono (fun k e=>by have e':k=w.heap.size+1:=e;subst e';exact⟨by omega,h2⟩));have gi:(Wa.putObj (w.heap.size+1) (.loop { rec0 .ready with state:=.busy })).heap[w.heap.size+1]?=some (.loop { rec0 .ready with state:=.busy }):=Yf g6;have go:(Wa.putObj (w.heap.size+1) (.loop { rec0 .ready with state:=.busy })).heap[w.heap.size]?=some (.deferred (some [])):=(WA (by omega)).trans gp;refine wpIn_mono (hbody _ pre x a' M W _ gk (hAx _ _ _ _ _ _ g9 gr g7) (by simp;exact g0.size) (by omega) gd) ?_;intro e a3 W3 hp;cases e with
  | normal =>
    obtain⟨M',gm,g4,g3⟩:=hp;have ga:=(g4.keep _ (by simp;exact g6) (fun e=>by rcases e with e|e;exact h2 e;omega)).trans gi;have gq:=(g4.keep _ (by simp;omega) (fun e=>by rcases e with e|e;exact h3 e;omega)).trans go;have ge:=(Vr.1 ga).1;have g8:¬ M' (w.heap.size+1):=fun e=>by rcases g3 _ e with h|h;exact h2 h;omega
    have gh:¬ M' w.heap.size:=fun e=>by rcases g3 _ e with h|h;exact h3 h;omega
    refine⟨_,_,run_endRound (P:=P) none ga,rfl,fun k=>M' k\/k=w.heap.size+1\/k=w.heap.size,⟨M',?_,fun k=>Iff.rfl,g8,gh,?_,Yf ge,(WA (by omega)).trans gq⟩,?_,?_⟩
    . exact hMi _ _ _ _ gm ((Wr.refl _ _).putObj (.inl ⟨by omega,g8⟩) _)
    ·intro k hk;rcases g3 k hk with h|h
     . exact h4 k h
     . right;omega
    ·refine((((g0.mono (N:=N) (fun _ h=>h.elim)).putObj (l:=w.heap.size+1) (.inl ((hN _).2 (.inr (.inl rfl)))) _).trans (N:=N) g4 (fun k _ h=>h) (fun k hk h=>?_)).putObj (l:=w.heap.size+1) (.inl ((hN _).2 (.inr (.inl rfl)))) _);rcases h with h|h
     . exact(hN k).2 (.inl h)
     . omega
    ·rintro k (hk|hk)
     ·rcases g3 k hk with h|h
      . exact .inl ((hN k).2 (.inl h))
      . exact .inr h
     . exact .inl ((hN k).2 (.inr hk))
  | ret=>exact hp.elim
  | exit id=>exact hp.elim
  | goto t=>exact hp.elim
  | panic ch=>exact hp.elim
  | outgrown=>exact hp.elim
 . exact⟨M0,gu,fun k=>Iff.rfl,fun e=>by have:=(g2 _ e).2;omega,fun e=>by have:=(g2 _ e).2;omega,fun k h=>.inl h,gt,gv⟩
 ·rintro e W2 ⟨⟨v,rfl⟩,N,⟨M,hi,hN,h2,h3,h4,hl,hd⟩,gg,_⟩;refine⟨none,_,run_endLoop (P:=P) hl (by simp[rec0]),hdone _ M _ (Vu _) h3 ?_ h4 ?_ ((WA (by omega)).trans hd)⟩
  . exact hMi _ _ _ _ hi ((Wr.refl _ _).putObj (.inl ⟨by omega,h2⟩) _)
  . exact((g5 (fun k=>n₀<=k)).trans gg (fun _ _ h=>h) (fun _ _ h=>h)).putObj (.inl (by omega)) _
end
abbrev BF:=(Nat->Bool)->Bool
variable {V:Nat->BF}
structure BN where
 v:Nat
 lo:Nat
 hi:Nat
variable {N:Nat->Option BN}
def ef (V:Nat->BF)(e:Nat):BF:=fun ρ=>(e%2 == 1) != V (e/2) ρ
def iteF (v:Nat)(h l:BF):BF:=fun ρ=>if ρ v then h ρ else l ρ
def okE (nodes:Nat->Option BN)(e:Nat):Prop:=e/2=0\/∃ b,nodes (e/2)=some b
def lvE (n:Nat)(lev:Nat->Nat)(nodes:Nat->Option BN)(e:Nat):Nat :=
 match nodes (e/2) with
 | some b=>lev b.v
 | none=>n
structure Dag (n:Nat)(lev:Nat->Nat)(nodes:Nat->Option BN)(V:Nat->BF):Prop where
 one:∀ ρ,V 0 ρ=true
 none0:nodes 0=none
 var:∀ id b,nodes id=some b->b.v<n
 inj:∀ u v,u<n->v<n->lev u=lev v->u=v
 lt:∀ v,v<n->lev v<n
 okLo:∀ id b,nodes id=some b->okE nodes b.lo
 okHi:∀ id b,nodes id=some b->okE nodes b.hi
 lvLo:∀ id b,nodes id=some b->lev b.v<lvE n lev nodes b.lo
 lvHi:∀ id b,nodes id=some b->lev b.v<lvE n lev nodes b.hi
 reg:∀ id b,nodes id=some b->b.hi%2=0
 ne:∀ id b,nodes id=some b->b.lo≠b.hi
 uniq:∀ id id' b,nodes id=some b->nodes id'=some b->id=id'
 eqn:∀ id b,nodes id=some b->V id=iteF b.v (ef V b.hi) (ef V b.lo)
section
variable {lev:Nat->Nat}{nodes:Nat->Option BN}
abbrev WL:=@Nat.mod_two_eq_zero_or_one
theorem Oc (V:Nat->BF)(e:Nat)(ρ:Nat->Bool):ef V (e ^^^ 1) ρ = !ef V e ρ:=by
 have h1:(e ^^^ 1)/2=e/2:=by
  have:=Nat.shiftRight_xor_distrib (a:=e) (b:=1) (i:=1);simpa [Nat.shiftRight_eq_div_pow] using this
 have h2:(e ^^^ 1)%2=1-e%2:=by
  have:=Nat.xor_mod_two_pow (a:=e) (b:=1) (n:=1);simp at this;rw[this];rcases WL e with h|h<;>rw[h]<;>rfl
 unfold ef;rw[h1,h2];rcases WL e with h|h<;>rw[h]<;>simp
theorem Dag.lvE_le (h:Dag n lev nodes V)(e:Nat):lvE n lev nodes e<=n:=by
 unfold lvE;split
 . rename_i b hb;exact Nat.le_of_lt (h.lt _ (h.var _ _ hb))
 . exact Vu _
theorem Dag.indep (h:Dag n lev nodes V):∀ (k e:Nat),n-lvE n lev nodes e<=k->okE nodes e->∀ ρ ρ':Nat->Bool,(∀ v,v<n->lvE n lev nodes e<=lev v->ρ v=ρ' v)->ef V e ρ=ef V e ρ':=by
 intro k
 induction k with
 | zero =>
   intro e hk ho ρ ρ' _;have h0:e/2=0:=by
    rcases ho with ho|⟨b,hb⟩
    . exact ho
    . exfalso;have h1:=h.lt _ (h.var _ _ hb);simp only[lvE,hb] at hk;omega
   simp only[ef,h0,h.one]
 | succ k ih =>
   intro e hk ho ρ ρ' g0;rcases ho with ho|⟨b,hb⟩
   . simp only[ef,ho,h.one]
   ·have hl:lvE n lev nodes e=lev b.v:=by simp only[lvE,hb]
    rw[hl] at hk g0;have hv:=h.var _ _ hb;have e1:ρ b.v=ρ' b.v:=g0 _ hv (Vu _);have e2:ef V b.hi ρ=ef V b.hi ρ':=ih b.hi (by have:=h.lvHi _ _ hb;omega) (h.okHi _ _ hb) ρ ρ' (fun v g1 hle=>g0 v g1 (by have:=h.lvHi _ _ hb;omega));have e3:ef V b.lo ρ=ef V b.lo ρ':=ih b.lo (by have:=h.lvLo _ _ hb;omega) (h.okLo _ _ hb) ρ ρ' (fun v g1 hle=>g0 v g1 (by have:=h.lvLo _ _ hb;omega));have:V (e/2) ρ=V (e/2) ρ':=by rw[h.eqn _ _ hb];simp only[iteF,e1,e2,e3]
    simp only[ef,this]
theorem Dag.top (h:Dag n lev nodes V):∀ (k id:Nat),n-lvE n lev nodes (2*id)<=k->(id=0\/∃ b,nodes id=some b)->V id (fun _=>true)=true:=by
 intro k
 induction k with
 | zero =>
   intro id hk ho;rcases ho with rfl|⟨b,hb⟩
   . exact h.one _
   ·exfalso;have h1:=h.lt _ (h.var _ _ hb);have:2*id/2=id:=by omega
    simp only[lvE,this,hb] at hk;omega
 | succ k ih =>
   intro id hk ho;rcases ho with rfl|⟨b,hb⟩
   . exact h.one _
   ·have h2:2*id/2=id:=by omega
    have hr:=h.reg _ _ hb;have hd:2*(b.hi/2)=b.hi:=by omega
    simp only[lvE,h2,hb] at hk;have hl:=h.lvHi _ _ hb;have:=ih (b.hi/2) (by rw[hd];omega) (h.okHi _ _ hb);rw[h.eqn _ _ hb];simp only[iteF,Wy,ef,hr,this];rfl
def upd (ρ:Nat->Bool)(v:Nat)(x:Bool):Nat->Bool:=fun u=>if u=v then x else ρ u
theorem E4 (ρ:Nat->Bool)(v:Nat)(x:Bool):upd ρ v x v=x:=by simp[upd]
theorem Oe (ρ:Nat->Bool){v u:Nat}(x:Bool)(h:u≠v):upd ρ v x u=ρ u:=by simp[upd,h]
theorem Dag.indep_var (h:Dag n lev nodes V){v:Nat}(ho:okE nodes e)(hl:lev v<lvE n lev nodes e)(ρ:Nat->Bool)(x:Bool):ef V e (upd ρ v x)=ef V e ρ :=
 h.indep _ e (Vu _) ho _ _ fun u _ hle=>Oe ρ x (by rintro rfl;omega)
theorem Dag.cofs (h:Dag n lev nodes V){b:BN}(hb:nodes id=some b)(ρ:Nat->Bool):V id (upd ρ b.v true)=ef V b.hi ρ/\V id (upd ρ b.v false)=ef V b.lo ρ:=by
 rw[h.eqn _ _ hb];simp only[iteF,E4,Wy,h.indep_var (h.okHi _ _ hb) (h.lvHi _ _ hb),h.indep_var (h.okLo _ _ hb) (h.lvLo _ _ hb)];simp
theorem Df {b:BN}(h:nodes id=some b):okE nodes (2*id):=.inr ⟨b,by rw[show 2*id/2=id from by omega];exact h⟩
abbrev Xz:=@Nat.lt_trichotomy
theorem Dag.canonK (h:Dag n lev nodes V):∀ (k e e':Nat),n-lvE n lev nodes e<=k->n-lvE n lev nodes e'<=k->okE nodes e->okE nodes e'->ef V e=ef V e'->e=e':=by
 intro k
 induction k with
 | zero =>
   intro e e' hk g1 ho g2 g3;have z:∀ e,n-lvE n lev nodes e<=0->okE nodes e->e/2=0:=by
    intro e hk ho;rcases ho with ho|⟨b,hb⟩
    . exact ho
    . exfalso;have h1:=h.lt _ (h.var _ _ hb);simp only[lvE,hb] at hk;omega
   have h1:=z e hk ho;have h2:=z e' g1 g2;have:=congrFun g3 (fun _=>true);simp only[ef,h1,h2,h.one] at this;have hp:e%2=e'%2:=by
    rcases WL e with a|a<;>rcases WL e' with b|b<;>rw[a,b] at this<;>first|omega|simp at this
   omega
 | succ k ih =>
   intro e e' hk g1 ho g2 g3;have t:∀ e,okE nodes e->V (e/2) (fun _=>true)=true:=fun e ho=>h.top _ _ (Vu _) ho
   have hp:e%2=e'%2:=by
    have:=congrFun g3 (fun _=>true);simp only[ef,t e ho,t e' g2] at this;rcases WL e with a|a<;>rcases WL e' with b|b<;>rw[a,b] at this<;>first|omega|simp at this
   have hV:V (e/2)=V (e'/2):=by
    funext ρ;have:=congrFun g3 ρ;simp only[ef,hp] at this;revert this;cases V (e/2) ρ<;>cases V (e'/2) ρ<;>cases (e'%2 == 1)<;>simp
   have nohang:∀ (id:Nat) (b:BN),nodes id=some b->n-lev b.v<=k+1->¬ (∀ ρ x,V id (upd ρ b.v x)=V id ρ):=by
    intro id b hb gd g5;refine h.ne _ _ hb (ih b.lo b.hi (by have:=h.lvLo _ _ hb;omega) (by have:=h.lvHi _ _ hb;omega) (h.okLo _ _ hb) (h.okHi _ _ hb) ?_);funext ρ;have:=h.cofs hb ρ;rw[<- this.1,<- this.2,g5,g5]
   have key:e/2=e'/2:=by
    rcases ho with h0|⟨b,hb⟩
    ·rcases g2 with g6|⟨b',g0⟩
     . omega
     ·exfalso;simp only[lvE,g0] at g1;refine nohang _ _ g0 g1 fun ρ x=>?_
      rw[<- hV,h0,h.one,h.one]
    ·rcases g2 with g6|⟨b',g0⟩
     ·exfalso;simp only[lvE,hb] at hk;refine nohang _ _ hb hk fun ρ x=>?_
      rw[hV,g6,h.one,h.one]
     ·have hl:lvE n lev nodes (2*(e/2))=lev b.v:=by
       have:2*(e/2)/2=e/2:=by omega
       simp only[lvE,this,hb]
      have g9:lvE n lev nodes (2*(e'/2))=lev b'.v:=by
       have:2*(e'/2)/2=e'/2:=by omega
       simp only[lvE,this,g0]
      have V2:∀ id,ef V (2*id)=V id:=by
       intro id;funext ρ
       have h1:2*id/2=id:=by omega
       have h2:2*id%2=0:=by omega
       simp[ef,h1,h2]
      simp only[lvE,hb] at hk;simp only[lvE,g0] at g1;rcases Xz (lev b.v) (lev b'.v) with g8|g7|ga
      ·exfalso;refine nohang _ _ hb hk fun ρ x=>?_
       have:=h.indep_var (e:=2*(e'/2)) (v:=b.v) (Df g0) (by rw[g9];exact g8) ρ x;rw[V2] at this;rw[hV];exact this
      ·have g4:b.v=b'.v:=h.inj _ _ (h.var _ _ hb) (h.var _ _ g0) g7;have gc:b.lo=b'.lo:=by
        refine ih _ _ (by have:=h.lvLo _ _ hb;omega) (by have:=h.lvLo _ _ g0;omega) (h.okLo _ _ hb) (h.okLo _ _ g0) ?_;funext ρ;rw[<- (h.cofs hb ρ).2,<- (h.cofs g0 ρ).2,hV,g4]
       have ge:b.hi=b'.hi:=by
        refine ih _ _ (by have:=h.lvHi _ _ hb;omega) (by have:=h.lvHi _ _ g0;omega) (h.okHi _ _ hb) (h.okHi _ _ g0) ?_;funext ρ;rw[<- (h.cofs hb ρ).1,<- (h.cofs g0 ρ).1,hV,g4]
       have:b=b':=by cases b;cases b';simp_all
       subst this;exact h.uniq _ _ _ hb g0
      ·exfalso;refine nohang _ _ g0 g1 fun ρ x=>?_
       have:=h.indep_var (e:=2*(e/2)) (v:=b'.v) (Df hb) (by rw[hl];exact ga) ρ x;rw[V2] at this;rw[<- hV];exact this
   omega
theorem Dag.canon (h:Dag n lev nodes V){e':Nat}(ho:okE nodes e)(ho':okE nodes e')(heq:ef V e=ef V e'):e=e' :=
 h.canonK n e e' (by omega) (by omega) ho ho' heq
theorem Dag.canon_iff (h:Dag n lev nodes V){e':Nat}(ho:okE nodes e)(ho':okE nodes e'):ef V e=ef V e'↔e=e' :=
 ⟨h.canon ho ho',fun e=>by rw[e]⟩
theorem Dag.ef0 (h:Dag n lev nodes V):ef V 0=fun _=>true:=by funext ρ;simp[ef,h.one]
theorem Dag.ef1 (h:Dag n lev nodes V):ef V 1=fun _=>false:=by funext ρ;simp[ef,h.one]
theorem Of (h:okE nodes e):okE nodes (e ^^^ 1):=by
 have h1:(e ^^^ 1)/2=e/2:=by
  have:=Nat.shiftRight_xor_distrib (a:=e) (b:=1) (i:=1);simpa [Nat.shiftRight_eq_div_pow] using this
 unfold okE at h ⊢;rw[h1];exact h
def addN (nodes:Nat->Option BN)(id:Nat)(b:BN):Nat->Option BN:=fun i=>if i=id then some b else nodes i
def addV (V:Nat->BF)(id:Nat)(b:BN):Nat->BF:=fun i=>if i=id then iteF b.v (ef V b.hi) (ef V b.lo) else V i
theorem BW (id:Nat)(b:BN):addN nodes id b id=some b:=by simp[addN]
theorem Bk (b:BN)(h:i≠id):addN nodes id b i=nodes i:=by simp[addN,h]
theorem G4 {b x:BN}(hf:nodes id=none)(h:nodes i=some x):addN nodes id b i=some x:=by
 rw[Bk _ (by rintro rfl;rw[hf] at h;cases h)];exact h
theorem Fp {b:BN}(hf:nodes id=none)(h:okE nodes e):okE (addN nodes id b) e:=by
 rcases h with h|⟨x,h⟩
 . exact .inl h
 . exact .inr ⟨x,G4 hf h⟩
abbrev Wn:=@Ne.symm
theorem Og {b:BN}(hf:nodes id=none)(hid:id≠0)(h:okE nodes e):lvE n lev (addN nodes id b) e=lvE n lev nodes e:=by
 unfold lvE;rcases h with h|⟨x,h⟩
 . rw[h,Bk _ (Wn hid)]
 . rw[G4 hf h,h]
theorem Oh {b:BN}(hf:nodes id=none)(hid:id≠0)(h:okE nodes e):ef (addV V id b) e=ef V e:=by
 have:e/2≠id:=by
  rcases h with h|⟨x,h⟩
  . omega
  . rintro rfl;rw[hf] at h;cases h
 funext ρ;simp only[ef,addV,Vs this]
abbrev Xp:=@Option.some.inj
theorem Dag.add (h:Dag n lev nodes V){b:BN}(hf:nodes id=none)(hid:id≠0)(hv:b.v<n)(hlo:okE nodes b.lo)(hhi:okE nodes b.hi)
 (llo:lev b.v<lvE n lev nodes b.lo) (lhi:lev b.v<lvE n lev nodes b.hi) (hr:b.hi%2=0) (hne:b.lo≠b.hi) (hnew:∀ i,nodes i≠some b) :
 Dag n lev (addN nodes id b) (addV V id b):=by
 have cs:∀ i x,addN nodes id b i=some x->(i=id/\x=b)\/(i≠id/\nodes i=some x):=by
  intro i x hx
  by_cases e:i=id
  . subst e;rw[BW] at hx;exact .inl ⟨rfl,(Xp hx).symm⟩
  . rw[Bk _ e] at hx;exact .inr ⟨e,hx⟩
 have L:∀ e,okE nodes e->lvE n lev (addN nodes id b) e=lvE n lev nodes e:=fun e ho=>Og hf hid ho
 have F:∀ e,okE nodes e->ef (addV V id b) e=ef V e:=fun e ho=>Oh hf hid ho
 refine⟨fun ρ=>?_,?_,?_,h.inj,h.lt,?_,?_,?_,?_,?_,?_,?_,?_⟩
 . simp only[addV,Vs (Wn hid),h.one]
 . rw[Bk _ (Wn hid)];exact h.none0
 ·intro i x hx;rcases cs i x hx with ⟨_,rfl⟩|⟨_,hx⟩
  . exact hv
  . exact h.var _ _ hx
 ·intro i x hx;rcases cs i x hx with ⟨_,rfl⟩|⟨_,hx⟩
  . exact Fp hf hlo
  . exact Fp hf (h.okLo _ _ hx)
 ·intro i x hx;rcases cs i x hx with ⟨_,rfl⟩|⟨_,hx⟩
  . exact Fp hf hhi
  . exact Fp hf (h.okHi _ _ hx)
 ·intro i x hx;rcases cs i x hx with ⟨_,rfl⟩|⟨_,hx⟩
  . rw[L _ hlo];exact llo
  . rw[L _ (h.okLo _ _ hx)];exact h.lvLo _ _ hx
 ·intro i x hx;rcases cs i x hx with ⟨_,rfl⟩|⟨_,hx⟩
  . rw[L _ hhi];exact lhi
  . rw[L _ (h.okHi _ _ hx)];exact h.lvHi _ _ hx
 ·intro i x hx;rcases cs i x hx with ⟨_,rfl⟩|⟨_,hx⟩
  . exact hr
  . exact h.reg _ _ hx
 ·intro i x hx;rcases cs i x hx with ⟨_,rfl⟩|⟨_,hx⟩
  . exact hne
  . exact h.ne _ _ hx
 ·intro i j x hx hy;rcases cs i x hx with ⟨e1,e⟩|⟨_,g1⟩
  ·rcases cs j x hy with ⟨e2,_⟩|⟨_,g0⟩
   . rw[e1,e2]
   . subst e;exact absurd g0 (hnew _)
  ·rcases cs j x hy with ⟨_,e⟩|⟨_,g0⟩
   . subst e;exact absurd g1 (hnew _)
   . exact h.uniq _ _ _ g1 g0
 ·intro i x hx;rcases cs i x hx with ⟨rfl,rfl⟩|⟨g2,hx⟩
  . rw[F _ hlo,F _ hhi];simp only[addV,Wy]
  . rw[F _ (h.okLo _ _ hx),F _ (h.okHi _ _ hx)];simp only[addV,Vs g2];exact h.eqn _ _ hx
theorem Dag.restrict (h:Dag n lev nodes V)(nodes':Nat->Option BN)(hsub:∀ i b,nodes' i=some b->nodes i=some b)
 (hlo:∀ i b,nodes' i=some b->okE nodes' b.lo/\okE nodes' b.hi):Dag n lev nodes' V:=by
 have h0:nodes' 0=none:=by
  cases e:nodes' 0 with
  | none=>rfl
  | some b=>have:=hsub _ _ e;rw[h.none0] at this;cases this
 have L:∀ e,okE nodes' e->lvE n lev nodes' e=lvE n lev nodes e:=by
  intro e ho;unfold lvE;rcases ho with ho|⟨x,ho⟩
  . rw[ho,h0,h.none0]
  . rw[ho,hsub _ _ ho]
 exact⟨h.one,h0,fun i b hb=>h.var i b (hsub _ _ hb),h.inj,h.lt,fun i b hb=>(hlo i b hb).1,fun i b hb=>(hlo i b hb).2,
  fun i b hb=>by rw[L _ (hlo i b hb).1];exact h.lvLo i b (hsub _ _ hb),fun i b hb=>by rw[L _ (hlo i b hb).2];exact h.lvHi i b (hsub _ _ hb),
  fun i b hb=>h.reg i b (hsub _ _ hb),fun i b hb=>h.ne i b (hsub _ _ hb),fun i j b hi hj=>h.uniq i j b (hsub _ _ hi) (hsub _ _ hj),fun i b hb=>h.eqn i b (hsub _ _ hb)⟩
end
theorem JM (e:Nat):(e ^^^ 1)/2=e/2:=by
 have:=Nat.shiftRight_xor_distrib (a:=e) (b:=1) (i:=1);simpa [Nat.shiftRight_eq_div_pow] using this
theorem Oi (h:e<2*n):e ^^^ 1<2*n:=by have:=JM e;omega
theorem Oj (e:Nat)(he:e<4611686018427387904):bits .xor .i64 (e:Int) 1=((e ^^^ 1:Nat):Int):=by
 have hx:e ^^^ 1<4611686018427387904:=Oi (n:=2305843009213693952) (by omega);have ea:BitVec.ofInt 64 ((e:Nat):Int)=BitVec.ofNat 64 e:=BitVec.ofInt_ofNat 64 e;have eb:BitVec.ofInt 64 1=BitVec.ofNat 64 1:=rfl;have key:bits .xor .i64 (e:Int) 1=IntKind.i64.wrap (((BitVec.ofInt 64 ((e:Nat):Int)) ^^^ (BitVec.ofInt 64 1)).toNat:Nat):=rfl;rw[key,ea,eb,BitVec.toNat_xor,BitVec.toNat_ofNat,BitVec.toNat_ofNat,Nat.mod_eq_of_lt (by omega),Nat.mod_eq_of_lt (by omega),IntKind.wrap_i64];omega
def eMax:Nat:=4611686018427387904
def enot (e:Nat):Nat:=e ^^^ 1
def eflip (e:Nat)(b:Bool):Nat:=if b then enot e else e
def enode (e:Nat):Nat:=e/2
def eneg (e:Nat):Bool:=e%2 == 1
theorem D2 (e:Nat):enot e/2=e/2:=JM e
theorem CP (e:Nat)(b:Bool):eflip e b/2=e/2:=by unfold eflip;(split;· exact D2 e);rfl
theorem G5 (e:Nat):enot e%2=1-e%2:=by
 unfold enot;have:=Nat.xor_mod_two_pow (a:=e) (b:=1) (n:=1);simp at this;rw[this];rcases WL e with h|h<;>rw[h]<;>rfl
theorem JN (e:Nat):enot e=if e%2=0 then e+1 else e-1:=by
 have h1:=D2 e;have h2:=G5 e;split<;>omega
theorem JO (e:Nat):enot (enot e)=e:=by
 have h1:=JN e;have h2:=JN (enot e);have h3:=G5 e;split at h2<;>split at h1<;>omega
theorem D3 (V:Nat->BF)(e:Nat)(ρ:Nat->Bool):ef V (enot e) ρ = !ef V e ρ:=Oc V e ρ
theorem Cv (V:Nat->BF)(e:Nat)(b:Bool)(ρ:Nat->Bool):ef V (eflip e b) ρ=(b != ef V e ρ):=by
 unfold eflip;cases b
 . simp
 . simp[D3]
theorem JP (h:okE N e):okE N (enot e):=Of h
theorem Dg {b:Bool}(h:okE N e):okE N (eflip e b):=by unfold eflip;(split;· exact JP h);exact h
theorem G6 (e:Nat)(w:Wd)(he:e<eMax) :
 Cl 162 #[Iv e] w (Sm (Iv (enot e:Nat)) w):=by
 have hb:=Oj e he
 go_enter func162,ntmps162
 go_wp2
 go_ret;exact⟨rfl,rfl⟩
theorem Cw (e:Nat)(b:Bool)(w:Wd)(he:e<eMax) :
 Cl 201 #[Iv e,.bool b] w (Sm (Iv (eflip e b:Nat)) w):=by
 cases b
 ·go_enter func201,ntmps201
  go_wp2
  go_ret;exact⟨rfl,rfl⟩
 ·go_enter func201,ntmps201
  go_wp2_with fail;refine(G6 e _ he).mono ?_;rintro x w' ⟨rfl,rfl⟩;go_wp2_with fail;go_ret;exact⟨rfl,rfl⟩
theorem BE (e:Nat)(w:Wd)(he:e<eMax) :
 Cl 168 #[Iv e] w (Sm (Iv (enode e:Nat)) w):=by
 unfold eMax at he;have hm:max (e:Int) 0=e:=by omega
 have hd:(e:Int).tdiv 2=(e:Int)/2:=Int.tdiv_eq_ediv_of_nonneg (by omega);have HX:Hq (((enode e:Nat):Int)=(e:Int)/2):=by show _=_;unfold enode;omega
 go_enter func168,ntmps168
 go_wp2
 go_ret;exact⟨Gx HX.o.symm,rfl⟩
abbrev X6:=@Int.tmod_eq_emod_of_nonneg
theorem E5 (e:Nat)(w:Wd)(he:e<eMax) :
 Cl 235 #[Iv e] w (Sm (.bool (eneg e)) w):=by
 unfold eMax at he
 by_cases hp:0<e
 ·have g0:(0:Int)<e:=by omega
  have hm:(e:Int).tmod 2=(e:Int)%2:=X6 (by omega)
  by_cases h1:e%2=1
  ·have H1:((e:Int)%2 == 1)=true:=by simp;omega
   have HX:Hq (eneg e=true):=by show _=_;simp[eneg,h1]
   clear h1
   go_enter func235,ntmps235
   go_wp2
   go_ret;exact⟨BD HX.o.symm,rfl⟩
  ·have H1:((e:Int)%2 == 1)=false:=by simp;omega
   have HX:Hq (eneg e=false):=by show _=_;simp[eneg];omega
   clear h1
   go_enter func235,ntmps235
   go_wp2
   go_ret;exact⟨BD HX.o.symm,rfl⟩
 ·obtain rfl:e=0:=by omega
  go_enter func235,ntmps235
  go_wp2
  go_ret;exact⟨BD (by decide),rfl⟩
theorem G7 (e:Nat)(w:Wd)(he:e<eMax) :
 Cl 167 #[Iv e] w (Sm (.bool (decide (enode e=0))) w):=by
 go_enter func167,ntmps167
 go_wp2_with fail;refine(BE e _ he).mono ?_;rintro x w' ⟨rfl,rfl⟩
 by_cases h:enode e=0
 ·have H:((enode e:Int) == 0)=true:=by simp[h]
  have HX:Hq (decide (enode e=0)=true):=by show _=_;simp[h]
  clear h;go_wp2_with fail;go_ret;exact⟨BD HX.o.symm,rfl⟩
 ·have H:((enode e:Int) == 0)=false:=by simp;exact h
  have HX:Hq (decide (enode e=0)=false):=by show _=_;simp[h]
  clear h;go_wp2_with fail;go_ret;exact⟨BD HX.o.symm,rfl⟩
theorem G8 (lo hi:Nat)(w:Wd)(hl:lo<eMax)(hh:hi<eMax) :
 Cl 246 #[Iv lo,Iv hi] w (Sm (.tuple #[Iv (eflip lo (eneg hi):Nat),Iv (eflip hi (eneg hi):Nat),.bool (eneg hi)]) w):=by
 obtain⟨b,hb⟩:∃ b,eneg hi=b:=⟨_,rfl⟩;rw[hb];have HB:=Hd hb;clear hb
 go_enter func246,ntmps246
 go_wp2_with fail;refine(E5 hi _ hh).mono ?_;rintro x w' ⟨rfl,rfl⟩;rw[HB.o];go_wp2_with fail;refine(Cw lo _ _ hl).mono ?_;rintro x w' ⟨rfl,rfl⟩;go_wp2_with fail;refine(Cw hi _ _ hh).mono ?_;rintro x w' ⟨rfl,rfl⟩;go_wp2_with fail
 go_ret3
 exact⟨rfl,rfl⟩
theorem G9 (id:Nat)(b:Bool)(w:Wd)(hi:id<2305843009213693952) :
 Cl 249 #[Iv id,.bool b] w (Sm (Iv (eflip (2*id) b:Nat)) w):=by
 have hm:max (id:Int) 0=id:=by omega
 have he:2*id<eMax:=by unfold eMax;omega
 have HC:Hq ((2:Int)*id=((2*id:Nat):Int)):=by show _=_;omega
 go_enter func249,ntmps249
 go_wp2_with fail;rw[HC.o];refine(Cw (2*id) b _ he).mono ?_;rintro x w' ⟨rfl,rfl⟩;go_wp2_with fail;go_ret;exact⟨rfl,rfl⟩
def Ag:Nat->(Nat->Int)->Int
 | 0,_=>0
 | k+1,f=>Ag k f+f k
theorem B4 {f g:Nat->Int}:∀ (k:Nat),(∀ i,i<k->f i=g i)->Ag k f=Ag k g
 | 0,_=>rfl
 | k+1,h=>by rw[Ag,Ag,B4 k (fun i hi=>h i (by omega)),h k (by omega)]
theorem Dh:∀ (k:Nat),Ag k (fun _=>0)=0
 | 0=>rfl
 | k+1=>by rw[Ag,Dh k];rfl
theorem CQ {f g:Nat->Int}{j:Nat}(hfg:∀ i,i≠j->g i=f i):∀ (k:Nat),j<k->Ag k g=Ag k f+(g j-f j)
 | 0,h=>by omega
 | k+1,h=>by
   rw[Ag,Ag]
   by_cases e:j=k
   . subst e;rw[B4 j (fun i hi=>hfg i (by omega))];omega
   . rw[CQ hfg k (by omega),hfg k (Wn e)];omega
abbrev Yc:=@Int.le_refl
theorem Fq {f:Nat->Int}:∀ (k:Nat),(∀ i,i<k->0<=f i)->0<=Ag k f
 | 0,_=>Yc 0
 | k+1,h=>by rw[Ag];have:=Fq k (fun i hi=>h i (by omega));have:=h k (by omega);omega
theorem Ft {f:Nat->Int}{j:Nat}:∀ (k:Nat),(∀ i,i<k->0<=f i)->j<k->f j<=Ag k f
 | 0,_,h=>by omega
 | k+1,h,hj=>by
   rw[Ag]
   by_cases e:j=k
   . subst e;have:=Fq j (fun i hi=>h i (by omega));omega
   . have:=Ft k (fun i hi=>h i (by omega)) (j:=j) (by omega);have:=h k (by omega);omega
abbrev XD:=@Nat.add_assoc
theorem JQ {f:Nat->Int}(k:Nat):∀ (m:Nat),(∀ i,k<=i->f i=0)->Ag (k+m) f=Ag k f
 | 0,_=>rfl
 | m+1,h=>by rw[<- XD,Ag,JQ k m h,h (k+m) (by omega)];omega
theorem JR {f:Nat->Int}(h:∀ i,k<=i->f i=0)(hk:k<=k'):Ag k' f=Ag k f:=by
 obtain⟨m,rfl⟩:=Nat.le.dest hk;exact JQ k m h
def toE (e x:Nat):Int:=if e/2=x then 1 else 0
theorem Cx (e x:Nat):0<=toE e x:=by unfold toE;split<;>omega
theorem DN (e:Nat):toE e (e/2)=1:=by simp[toE]
def Ck (b:BN)(x:Nat):Int:=toE b.lo x+toE b.hi x
def from1 (N:Nat->Option BN)(c:Nat->Nat)(x p:Nat):Int :=
 match N p with
 | some b=>if 0<c p then Ck b x else 0
 | none=>0
theorem JS (N:Nat->Option BN)(c:Nat->Nat)(x p:Nat):0<=from1 N c x p:=by
 unfold from1 Ck;split
 . rename_i b _;have:=Cx b.lo x;have:=Cx b.hi x;split<;>omega
 . omega
structure Cnt (k:Nat)(N:Nat->Option BN)(c:Nat->Nat)(ext:Nat->Int):Prop where
 lt:∀ i b,N i=some b->i<k
 eq:∀ x b,N x=some b->(c x:Int)=ext x+Ag k (from1 N c x)
def bump (f:Nat->Int)(x:Nat)(d:Int):Nat->Int:=fun i=>if i=x then f i+d else f i
def setC (c:Nat->Nat)(x v:Nat):Nat->Nat:=fun i=>if i=x then v else c i
def addE (f:Nat->Int)(e:Nat)(d:Int):Nat->Int:=fun i=>f i+d*toE e i
section
variable {c:Nat->Nat}{ext:Nat->Int}
theorem Cnt.congr (h:Cnt k N c ext){ext':Nat->Int}(he:∀ x b,N x=some b->ext' x=ext x):Cnt k N c ext' :=
 ⟨h.lt,fun x b hb=>by rw[he x b hb];exact h.eq x b hb⟩
theorem Cnt.weaken (h:Cnt k N c ext)(hk:k<=k'):Cnt k' N c ext :=
 ⟨fun i b hb=>VJ (h.lt i b hb) hk,fun x b hb=>by
  rw[h.eq x b hb,JR (fun i hi=>by
   unfold from1;cases e:N i with
   | none=>rfl
   | some b=>have:=h.lt i b e;omega) hk]⟩
theorem Cnt.moreLive (h:Cnt k N c ext)(hc:0<c x):Cnt k N (setC c x (c x+1)) (bump ext x 1):=by
 refine⟨h.lt,fun z b hb=>?_⟩;have e1:Ag k (from1 N (setC c x (c x+1)) z)=Ag k (from1 N c z):=B4 k fun i _=>by
  unfold from1;cases N i with
  | none=>rfl
  | some b =>
    by_cases e:i=x
    . subst e;simp only[setC,Wy,hc,show 0<c i+1 from by omega]
    . simp only[setC,Vs e]
 rw[e1];have:=h.eq z b hb
 by_cases e:z=x
 . subst e;simp only[setC,bump,Wy];omega
 . simp only[setC,bump,Vs e];exact this
theorem Cnt.moreDead (h:Cnt k N c ext){b:BN}(hx:N x=some b)(hc:c x=0) :
 Cnt k N (setC c x 1) (addE (addE (bump ext x 1) b.lo (-1)) b.hi (-1)):=by
 refine⟨h.lt,fun z b' hb'=>?_⟩;have e1:Ag k (from1 N (setC c x 1) z)=Ag k (from1 N c z)+(from1 N (setC c x 1) z x-from1 N c z x):=by
  refine CQ (fun i hi=>?_) k (h.lt x b hx);unfold from1;simp only[setC,Vs hi]
 have e2:from1 N (setC c x 1) z x=Ck b z:=by simp[from1,hx,setC]
 have e3:from1 N c z x=0:=by simp[from1,hx,hc]
 rw[e1,e2,e3];have:=h.eq z b' hb';unfold Ck;simp only[addE,bump,setC]
 by_cases e:z=x
 . subst e;simp only[Wy];omega
 . simp only[Vs e];omega
theorem Cnt.lessLive (h:Cnt k N c ext)(hc:1<c x):Cnt k N (setC c x (c x-1)) (bump ext x (-1)):=by
 refine⟨h.lt,fun z b hb=>?_⟩;have e1:Ag k (from1 N (setC c x (c x-1)) z)=Ag k (from1 N c z):=B4 k fun i _=>by
  unfold from1;cases N i with
  | none=>rfl
  | some b =>
    by_cases e:i=x
    . subst e;simp only[setC,Wy,show 0<c i from by omega,show 0<c i-1 from by omega]
    . simp only[setC,Vs e]
 rw[e1];have:=h.eq z b hb
 by_cases e:z=x
 . subst e;simp only[setC,bump,Wy];omega
 . simp only[setC,bump,Vs e];exact this
theorem Cnt.lessDies (h:Cnt k N c ext){b:BN}(hx:N x=some b)(hc:c x=1) :
 Cnt k N (setC c x 0) (addE (addE (bump ext x (-1)) b.lo 1) b.hi 1):=by
 refine⟨h.lt,fun z b' hb'=>?_⟩;have e1:Ag k (from1 N (setC c x 0) z)=Ag k (from1 N c z)+(from1 N (setC c x 0) z x-from1 N c z x):=by
  refine CQ (fun i hi=>?_) k (h.lt x b hx);unfold from1;simp only[setC,Vs hi]
 have e2:from1 N (setC c x 0) z x=0:=by simp[from1,hx,setC]
 have e3:from1 N c z x=Ck b z:=by simp[from1,hx,hc]
 rw[e1,e2,e3];have:=h.eq z b' hb';unfold Ck;simp only[addE,bump,setC]
 by_cases e:z=x
 . subst e;simp only[Wy];omega
 . simp only[Vs e];omega
theorem Cnt.pos_of_ext (h:Cnt k N c ext){b:BN}(hx:N x=some b)(he:1<=ext x):0<c x:=by
 have:=h.eq x b hx;have h2:0<=Ag k (from1 N c x):=Fq k fun i _=>JS N c x i
 omega
theorem Cnt.pos_of_live (h:Cnt k N c ext){p:Nat}{bp:BN}(hp:N p=some bp)(hc:0<c p)(he:e=bp.lo\/e=bp.hi){b:BN}(hx:N (e/2)=some b)(h0:0<=ext (e/2)):0<c (e/2):=by
 have:=h.eq _ b hx;have h2:from1 N c (e/2) p<=Ag k (from1 N c (e/2)):=Ft k (fun i _=>JS N c _ i) (h.lt p bp hp);have h3:1<=from1 N c (e/2) p:=by
  simp only[from1,hp,hc,Wy,Ck];have a:=Cx bp.lo (e/2);have b:=Cx bp.hi (e/2);rcases he with rfl|rfl
  . have:=DN bp.lo;omega
  . have:=DN bp.hi;omega
 omega
theorem Cnt.collect (h:Cnt k N c ext)(N':Nat->Option BN)(hN:∀ i,N' i=if 0<c i then N i else none):Cnt k N' c ext:=by
 refine⟨fun i b hb=>?_,fun x b hb=>?_⟩
 ·rw[hN] at hb;split at hb
  . exact h.lt i b hb
  . cases hb
 ·have g0:N x=some b:=by
   rw[hN] at hb;split at hb
   . exact hb
   . cases hb
  rw[h.eq x b g0];congr 1;refine B4 k fun i _=>?_
  unfold from1;rw[hN]
  by_cases hc:0<c i
  . rw[Vw hc]
  ·rw[Vs hc];cases N i with
   | none=>rfl
   | some b=>simp[hc]
theorem Cnt.add (h:Cnt k N c ext){b:BN}(hf:N id=none)(hno:∀ i bi,N i=some bi->bi.lo/2≠id/\bi.hi/2≠id)(hid:id<k) :
 Cnt k (addN N id b) (setC c id 0) (fun i=>if i=id then 0 else ext i):=by
 have hs:∀ x,Ag k (from1 (addN N id b) (setC c id 0) x)=Ag k (from1 N c x):=fun x=>B4 k fun i _=>by
  unfold from1
  by_cases e:i=id
  . subst e;rw[BW,hf];simp[setC]
  . rw[Bk _ e];simp only[setC,Vs e]
 refine⟨fun i b' hb=>?_,fun x b' hb=>?_⟩
 ·by_cases e:i=id
  . rw[e];exact hid
  . rw[Bk _ e] at hb;exact h.lt i b' hb
 ·rw[hs]
  by_cases e:x=id
  ·subst e;simp only[setC,Wy];rw[B4 k (g:=fun _=>0) (fun i _=>?_),Dh]
   . rfl
   ·unfold from1;cases hi:N i with
    | none=>rfl
    | some bi =>
      have:=hno i bi hi;simp[Ck,toE,this.1,this.2]
  . rw[Bk _ e] at hb;simp only[setC,Vs e];exact h.eq x b' hb
theorem Cnt.setLive (h:Cnt k N c ext){b b':BN}(hx:N x=some b)(hc:0<c x) :
 Cnt k (fun i=>if i=x then some b' else N i) c (addE (addE (addE (addE ext b.lo 1) b.hi 1) b'.lo (-1)) b'.hi (-1)):=by
 refine⟨fun i b2 hb=>?_,fun z b2 hb=>?_⟩
 ·split at hb
  . rename_i e;rw[e];exact h.lt x b hx
  . exact h.lt i b2 hb
 ·have hz:∃ q,N z=some q:=by
   split at hb
   . rename_i e;rw[e];exact⟨b,hx⟩
   . exact⟨b2,hb⟩
  obtain⟨q,hq⟩:=hz;have e1:Ag k (from1 (fun i=>if i=x then some b' else N i) c z)=Ag k (from1 N c z)+(from1 (fun i=>if i=x then some b' else N i) c z x-from1 N c z x):=by
   refine CQ (fun i hi=>?_) k (h.lt x b hx);unfold from1;simp only[Vs hi]
  have e2:from1 (fun i=>if i=x then some b' else N i) c z x=Ck b' z:=by simp[from1,hc]
  have e3:from1 N c z x=Ck b z:=by simp[from1,hx,hc]
  rw[e1,e2,e3];have:=h.eq z q hq;unfold Ck;simp only[addE];omega
end
def dead1 (N:Nat->Option BN)(c:Nat->Nat)(i:Nat):Int :=
 match N i with
 | some _=>if c i=0 then 1 else 0
 | none=>0
def Ba (k:Nat)(N:Nat->Option BN)(c:Nat->Nat):Int:=Ag k (dead1 N c)
theorem JT (N:Nat->Option BN)(c:Nat->Nat)(i:Nat):0<=dead1 N c i:=by unfold dead1;split<;>first|omega|(split<;>omega)
theorem Fu {c:Nat->Nat}{v:Nat}{b:BN}(hx:N x=some b)(hk:x<k) :
 Ba k N (setC c x v)=Ba k N c+((if v=0 then 1 else 0)-(if c x=0 then 1 else 0)):=by
 unfold Ba;rw[CQ (f:=dead1 N c) (j:=x) (fun i hi=>?_) k hk]
 . simp[dead1,hx,setC]
 . unfold dead1;simp only[setC,Vs hi]
section
def reaches (ops:Array Oper):Nat->Nat->Nat->Bool
 | 0,_,_=>false
 | f+1,i,j=>match ops[j]? with
   | none=>false
   | some oj=>oj.after.any fun e=>Region.binds .any e&&(e.on == i||reaches ops f i e.on)
def Closed (ops:Array Oper)(L:Array Bool):Prop:=∀ j oj,ops[j]?=some oj->L.getD j false=true->∀ e∈oj.after,Region.binds .any e=true->L.getD e.on false=true
theorem GA (n:Nat):Closed ops (Array.replicate n false):=by
 intro j oj _ h;rcases VE j n with h'|h'<;>simp[h'] at h
theorem Closed.set (h:Closed ops L)(hi:i∈Region.ready .any ops L):Closed ops (L.setIfInBounds i true):=by
 obtain⟨_,oi,g2,g1⟩:=mem_ready.1 hi;intro j oj hj hl e he hb
 by_cases g0:i=j
 . subst g0;obtain rfl:oj=oi:=Xp (hj.symm.trans g2);exact getD_set_true (g1 e he hb)
 . rw[getD_set_ne false g0] at hl;exact getD_set_true (h j oj hj hl e he hb)
abbrev Wq:=@Bool.and_eq_true
abbrev XW:=@Bool.or_eq_true
abbrev XP:=@beq_iff_eq
theorem JU {L:Array Bool}(hc:Closed ops L){i:Nat}:∀ (f j:Nat),(j∈Region.ready .any ops L\/L.getD j false=true)->reaches ops f i j=true->L.getD i false=true
 | 0,_,_,h=>by simp[reaches] at h
 | f+1,j,hj,h=>by
   unfold reaches at h;split at h
   . cases h
   ·rename_i oj hoj
    obtain⟨e,he,h2⟩:=Array.any_eq_true'.1 h;simp only[Wq,XW,XP] at h2;have hl:L.getD e.on false=true:=by
     rcases hj with hj|hj
     . obtain⟨_,o',g1,g0⟩:=mem_ready.1 hj;obtain rfl:o'=oj:=Xp (g1.symm.trans hoj);exact g0 e he h2.1
     . exact hc j oj hoj hj e he h2.1
    rcases h2.2 with e1|e1
    . rw[<- e1];exact hl
    . exact JU hc f e.on (.inr hl) e1
abbrev X2:=@Array.getElem?_eq_none
theorem Ol (h:L.getD i true=false):L.getD i false=false:=by
 rcases VE i L.size with h'|h'
 . simp[h'] at h ⊢;exact h
 . simp[X2 h'] at h
def D4 (P:Program)(ops:Array Oper)(Q:Exit->Act->Wd->Prop)(S:Wd->Prop)(m:Nat):Nat->Array Bool->Act->Wd->Prop
 | 0,L,a,w=>Region.ready .any ops L=[]/\Q .normal a w
 | f+1,L,a,w=>(Region.ready .any ops L=[]->Q .normal a w) /\
   ∀ i∈Region.ready .any ops L,wpOp P ops Q i (fun a' w'=>(i=m\/S w')/\D4 P ops Q S m f (L.setIfInBounds i true) a' w') a w
theorem Fv {m:Nat}:∀ (f:Nat) (L:Array Bool) (a:Act) (w:Wd),D4 P ops Q S m f L a w->wpAny P .any ops Q f L a w
 | 0,_,_,_,h=>h
 | f+1,_,_,_,h=>⟨h.1,fun i hi=>wpOp_mono (fun a' w' h'=>Fv f _ a' w' h'.2) (h.2 i hi)⟩
abbrev WH:=@decide_eq_true_eq
theorem GB {m:Nat}{oi:Oper}(hi:ops[i]?=some oi)(hs:Region.noSelect ops=true)(hQ:∀ c (a:Act) d v w,Q (.panic c) (a.put d v) w->Q (.panic c) a w)
 (hm:(decide (ops.size<=m)||reaches ops ops.size i m)=true) :
 ∀ (f:Nat) (L:Array Bool) (a:Act) (w:Wd),Closed ops L ->
  (∀ j oj,ops[j]?=some oj->j≠i->L.getD j true=false->(∀ e∈oj.after,Region.binds .any e=true->e.on≠i)->oi.apart ops oj=true) ->
  i∈Region.ready .any ops L->YieldsIf P ops S oi v a->S w ->
  D4 P ops Q S m f (L.setIfInBounds i true) (a.put oi.dst v) w->D4 P ops Q S m (f+1) L a w:=by
 intro f
 induction f with
 | zero =>
   intro L a w _ _ hr hy hS H;refine⟨fun h=>(by rw[h] at hr;cases hr),fun j hj=>?_⟩
   by_cases g0:j=i
   . subst g0;exact hy.wpOp hi hS ⟨.inr hS,H⟩
   . have:=ready_mono hj g0;rw[H.1] at this;cases this
 | succ f ih =>
   intro L a w hc g2 hr hy hS H;refine⟨fun h=>(by rw[h] at hr;cases hr),fun j hj=>?_⟩
   by_cases g0:j=i
   . subst g0;exact hy.wpOp hi hS ⟨.inr hS,H⟩
   ·have h1:=H.2 j (ready_mono hj g0);obtain⟨g3,oj,g1,ga⟩:=mem_ready.1 hj;have g4:=Ol (mem_ready.1 hr).1;have g9:∀ e∈oj.after,Region.binds .any e=true->e.on≠i:=fun e he hb gf=>by
     have h1:=ga e he hb;rw[gf,g4] at h1;cases h1
    have ge:j≠m:=by
     rintro rfl;simp only[XW,WH] at hm;rcases hm with hm|hm
     . have:=(Vr.1 g1).1;omega
     . have:=JU hc _ _ (.inl hj) hm;rw[g4] at this;cases this
    have h2:=wpOp_putIf g1 (g2 j oj g1 g0 g3 g9) (fun cs b=>Region.noSelect_spec hs i oi cs b hi) (fun cs b=>Region.noSelect_spec hs j oj cs b g1) (fun c a w=>hQ c a _ _ w) hy h1;have g5:∀ k ok,ops[k]?=some ok->k≠i->(L.setIfInBounds j true).getD k true=false ->
     (∀ e∈ok.after,Region.binds .any e=true->e.on≠i)->oi.apart ops ok=true:=fun k ok hk gd g6 gc=>by
     refine g2 k ok hk gd ?_ gc
     by_cases g7:j=k
     . subst g7;exact g3
     . rw[getD_set_ne true g7] at g6;exact g6
    refine wpOp_mono (fun a' w' h3=>?_) h2;have g8:=h3.2.1.resolve_left ge;refine⟨.inr g8,ih (L.setIfInBounds j true) a' w' (hc.set hj) g5 (ready_mono hr (Wn g0)) h3.1 g8 ?_⟩;rw[Array.setIfInBounds_comm _ _ g0];exact h3.2.2
def mixB (ops:Array Oper)(m:Nat):List (Nat×Bool)->Array Bool->Bool
 | [],L=>(Region.ready .any ops L).isEmpty
 | (i,true)::r,L=>decide (Region.ready .any ops L=[i])&&mixB ops m r (L.setIfInBounds i true)
 | (i,false)::r,L=>(Region.ready .any ops L).contains i&&Region.free .any ops L i&&(decide (ops.size<=m)||reaches ops ops.size i m)&&mixB ops m r (L.setIfInBounds i true)
def A0 (P:Program)(ops:Array Oper)(Q:Exit->Act->Wd->Prop)(S:Wd->Prop)(last:Bool):List (Option Oper×Bool)->Act->Wd->Prop
 | [],a,w=>Q .normal a w
 | (none,_)::_,_,_=>False
 | (some o,false)::r,a,w=>∃ v,YieldsIf P ops S o v a/\A0 P ops Q S last r (a.put o.dst v) w
 | (some o,true)::r,a,w=>if Region.wanted o (yielded ops a.tmps) then o.wp P a w (fun a' w'=>((last&&r.isEmpty)=true\/S w')/\A0 P ops Q S last r a' w') Q else A0 P ops Q S last r (a.put o.dst undef) w
def planned (l:List Oper)(seq:List (Nat×Bool)):List (Option Oper×Bool):=seq.map fun p=>(l[p.1]?,p.2)
abbrev Yl:=@List.isEmpty_iff
abbrev WG:=@List.map_cons
theorem Fw {l:List Oper}{m:Nat}{last:Bool}(hs:Region.noSelect l.toArray=true)(hQ:∀ c (a:Act) d v w,Q (.panic c) (a.put d v) w->Q (.panic c) a w) :
 ∀ (seq:List (Nat×Bool)) (L:Array Bool) (a:Act) (w:Wd),(last=true->(seq.getLast?.map (·.1)=some m\/seq=[])) ->
 mixB l.toArray m seq L=true->Closed l.toArray L->S w\/seq=[]->A0 P l.toArray Q S last (planned l seq) a w->D4 P l.toArray Q S m seq.length L a w
 | [],L,a,w,_,hB,_,_,h=>⟨by simpa [mixB,Yl] using hB,h⟩
 | (i,b)::r,L,a,w,hl,hB,hc,hS,h=>by
   have hS0:=hS.resolve_right (by simp);have hl':last=true->(r.getLast?.map (·.1)=some m\/r=[]):=fun e=>by
    cases r with
    | nil=>exact .inr rfl
    | cons x r=>left;simpa using(hl e).resolve_right (by simp)
   cases hi:l[i]? with
   | none=>simp only[planned,WG,hi,A0] at h
   | some o =>
     have hi':l.toArray[i]?=some o:=by simpa using hi
     simp only[planned,WG,hi] at h;cases b with
     | false =>
       simp only[mixB,Wq] at hB;obtain⟨⟨⟨hr,hf⟩,hm⟩,hB⟩:=hB;obtain⟨v,hy,hn⟩:=h;have g0:i∈Region.ready .any l.toArray L:=by simpa using hr
       exact GB hi' hs hQ hm _ L a w hc (Region.free_spec hi' hf) g0 hy hS0 (Fw hs hQ r _ _ w hl' hB (hc.set g0) (.inl hS0) hn)
     | true =>
       simp only[mixB,Wq,WH] at hB;obtain⟨hr,hB⟩:=hB;refine⟨fun h0=>(by rw[h0] at hr;cases hr),fun j hj=>?_⟩;have g1:j=i:=by rw[hr] at hj;simpa using hj
       subst g1;simp only[A0] at h;unfold wpOp;rw[hi']
       by_cases hw:Region.wanted o (yielded l.toArray a.tmps)=true
       ·simp only[hw,Wy] at h ⊢;left;refine Oper.wp_mono ?_ h;intro a' w' ⟨h1,h2⟩;refine⟨?_,?_⟩
        ·rcases h1 with h1|h1
         . simp only[Wq,Yl,List.map_eq_nil_iff] at h1;obtain⟨h1,rfl⟩:=h1;left;simpa using(hl h1)
         . exact .inr h1
        ·refine Fw hs hQ r _ _ w' hl' hB (hc.set hj) ?_ h2;rcases h1 with h1|h1
         . simp only[Wq,Yl,List.map_eq_nil_iff] at h1;exact .inr h1.2
         . exact .inl h1
       . simp only[hw] at h ⊢;exact⟨.inr hS0,Fw hs hQ r _ _ w hl' hB (hc.set hj) (.inl hS0) h⟩
def NP (Q:Exit->Act->Wd->Prop):Exit->Act->Wd->Prop
 | .panic _,_,_=>False
 | e,a,w=>Q e a w
theorem JV {s:Code}(h:s.wp P (NP Q) a w):s.wp P Q a w :=
 Code.wp_mono (fun e a w h=>by cases e<;>first|exact h|exact h.elim) h
theorem AJ (S:Wd->Prop)(last:Bool)(m:Nat)(seq:List (Nat×Bool))(hm:P.follows .mixedOrders=true)
 (hB:(Region.noSelect l.toArray&&decide (seq.length=l.toArray.size)&&(!last||decide (seq.getLast?.map (·.1)=some m))&&mixB l.toArray m seq (Array.replicate l.toArray.size false))=true)
 (hS:S w.drew) (h:A0 P l.toArray (NP Q) S last (planned l seq) a w.drew):(Code.region id l.toArray true).wp P Q a w:=by
 simp only[Wq,WH] at hB;obtain⟨⟨⟨hs,g0⟩,hl⟩,hB⟩:=hB;refine JV (wp_region_any hm (Fv _ _ _ _ ?_ (S:=S) (m:=m)));rw[<- g0];refine Fw hs (fun _ _ _ _ _ h=>h) seq _ _ _ (fun e=>?_) (by rw[g0];exact hB) (GA _) (.inl hS) h;subst e;left;simpa using hl
theorem Cm (h:Q .normal a w):NP Q .normal a w:=h
theorem Bs (h:Q .normal a w):A0 P ops (NP Q) S last [] a w:=h
theorem Om {o:Oper}{r:List (Option Oper×Bool)}(hg:o.guard=none)(hv:∀ w,S w->(execOp a.eval o).run P w=.ok (.value v) w)
 (h:A0 P ops Q S last r (a.put o.dst v) w):A0 P ops Q S last ((some o,false)::r) a w :=
 ⟨v,.inl ⟨by simp[Region.wanted,hg],hv⟩,h⟩
theorem Aq {o:Oper}{r:List (Option Oper×Bool)}(hg:o.guard=none)
 (h:∃ v,(∀ w,S w->(execOp a.eval o).run P w=.ok (.value v) w)/\A0 P ops Q S last r (a.put o.dst v) w):A0 P ops Q S last ((some o,false)::r) a w:=by
 obtain⟨v,h1,h2⟩:=h;exact Om hg h1 h2
theorem A9 {o:Oper}{r:List (Option Oper×Bool)}(b:Bool)(hb:Region.wanted o (yielded ops a.tmps)=b)
 (h:∃ v,(b=true->∀ w,S w->(execOp a.eval o).run P w=.ok (.value v) w)/\A0 P ops Q S last r (a.put o.dst (if b then v else undef)) w):A0 P ops Q S last ((some o,false)::r) a w:=by
 obtain⟨v,h1,h2⟩:=h;cases b with
 | true=>exact⟨v,.inl ⟨hb,h1 rfl⟩,h2⟩
 | false=>exact⟨undef,.inr ⟨hb,rfl⟩,h2⟩
theorem JW {o:Oper}{r:List (Option Oper×Bool)}{f:FuncId}(hg:o.guard=none)
 (he:(execOp a.eval o).run P w=.ok (.enter f args) w) (hc:Calls P f args w fun e w'=>e=.returned v/\S w')
 (h:∀ w',S w'->A0 P ops Q S last r (a.put o.dst v) w'):A0 P ops Q S last ((some o,true)::r) a w:=by
 have hw:Region.wanted o (yielded ops a.tmps)=true:=by simp[Region.wanted,hg]
 unfold A0;simp only[hw,Wy,Oper.wp,he,Oper.upon];exact hc.mono fun e w' ⟨h1,h2⟩=>by subst h1;exact⟨.inr h2,h w' h2⟩
theorem JX {o:Oper}{r:List (Option Oper×Bool)}{f:FuncId}(b:Bool)(hb:Region.wanted o (yielded ops a.tmps)=b)(hS:S w)
 (he:b=true->(execOp a.eval o).run P w=.ok (.enter f args) w) (hc:b=true->Calls P f args w fun e w'=>e=.returned v/\S w')
 (h:∀ w',S w'->A0 P ops Q S last r (a.put o.dst (if b then v else undef)) w'):A0 P ops Q S last ((some o,true)::r) a w:=by
 unfold A0;cases b with
 | true =>
   simp only[hb,Wy,Oper.wp,he rfl,Oper.upon];exact(hc rfl).mono fun e w' ⟨h1,h2⟩=>by subst h1;exact⟨.inr h2,h w' h2⟩
 | false =>
   simp only[hb];exact h w hS
theorem E6 {o:Oper}{r:List (Option Oper×Bool)}(hg:o.guard=none)
 (he:(execOp a.eval o).run P w=.ok (.value v) w') (hS:S w') (h:A0 P ops Q S last r (a.put o.dst v) w'):A0 P ops Q S last ((some o,true)::r) a w:=by
 have hw:Region.wanted o (yielded ops a.tmps)=true:=by simp[Region.wanted,hg]
 unfold A0;simp only[hw,Wy,Oper.wp,he,Oper.upon];exact⟨.inr hS,h⟩
abbrev WB:=@Sem.run_bind
abbrev XQ:=@Sem.run_pure
abbrev VZ:=@Result.andThen_ok
theorem JY {o:Oper}{s x:Operand}{u:TypeId}{y:Value}(ho:o.op=.call { callee:=.builtin .append,args:=#[s,x],argTypes:=#[t,u] })
 (hs:a.eval s=v) (hx:a.eval x=y) (hr:(Builtin.append_ #[t,u] o.type #[v,y]).run P w=.ok v' w'):(execOp a.eval o).run P w=.ok (.value v') w':=by
 unfold execOp;simp only[ho,resolve,invoke,builtin,WB,XQ,VZ,List.map_toArray,WG,List.map_nil,hs,hx,hr]
theorem E7 {o:Oper}{r:List (Option Oper×Bool)}(hg:o.guard=none)
 (h:∀ K:Act->Wd->Prop,(∀ a' w',S w'->A0 P ops Q S last r a' w'->K a' w')->o.wp P a w K Q):A0 P ops Q S last ((some o,true)::r) a w:=by
 have hw:Region.wanted o (yielded ops a.tmps)=true:=by simp[Region.wanted,hg]
 unfold A0;simp only[hw,Wy];exact h _ fun a' w' h1 h2=>⟨.inr h1,h2⟩
theorem Di {o:Oper}(hg:o.guard=none)
 (h:∀ K:Act->Wd->Prop,(∀ a' w',Q .normal a' w'->K a' w')->o.wp P a w K Q):A0 P ops Q S true [(some o,true)] a w:=by
 have hw:Region.wanted o (yielded ops a.tmps)=true:=by simp[Region.wanted,hg]
 unfold A0;simp only[hw,Wy];exact h _ fun a' w' h1=>⟨.inl rfl,h1⟩
end
structure RN where
 id:Nat
 v:Nat
 lo:Nat
 hi:Nat
 refs:Nat
def rn0:RN:=⟨0,0,0,0,0⟩
def nat64 (n:Nat):Value:=Iv n
def rnV (n:RN):List Value:=[Iv n.id,Iv n.v,Iv n.lo,Iv n.hi,Iv n.refs]
theorem Fx (n:RN):(rnV n).length=5:=rfl
def An (n:RN):Value:=.agg #[Iv n.id,Iv n.v,Iv n.lo,Iv n.hi,Iv n.refs]
structure Ad where
 room:Nat
 at_:List RN
 taken:List Bool
 free:List Nat
 many:Nat
variable {p:Ad}
def Ad.tk (p:Ad)(i:Nat):Bool:=p.taken.getD i false
def Ad.nd (p:Ad)(i:Nat):RN:=p.at_.getD i rn0
def Ad.get (p:Ad)(i:Nat):Option RN:=if p.tk i=true then some (p.nd i) else none
structure Ap (o:Own)(w:Wd)(pb:Nat)(p:Ad):Prop where
 own:o pb=some .pool
 blk:∃ vs vt vf,w.heap[pb]?=some (.cells #[Iv p.room,vs,vt,vf,Iv p.many] 227 (0,0)) /\
  RowR o w .slots 254 5 vs p.at_.length (p.at_.flatMap rnV)/\RowR o w .taken 4 1 vt p.taken.length (p.taken.map Value.bool) /\
  RowR o w .free 3 1 vf p.free.length (p.free.map nat64)
 len:p.taken.length=p.at_.length
 room:p.room<=1048576
 top:p.at_.length<=p.room+1
 zero:p.tk 0=false
 pos:0<p.at_.length
 id:∀ i,p.tk i=true->(p.nd i).id=i
 many:p.many+p.free.length+1=p.at_.length
 nodup:p.free.Nodup
 free:∀ i,i∈p.free->0<i/\i<p.at_.length/\p.tk i=false
 cnt:(p.many:Int)=Ag p.at_.length (fun i=>if p.tk i=true then 1 else 0)
theorem A2 {cur:Array Value}{e:TypeId}{fr:Nat×Nat}(h:w.heap[g]?=some (.cells cur e fr))(u:Value):(w.setCell (Aw g k) u).heap[g]?=some (.cells (cur.setIfInBounds k u) e fr):=by
 simp only[World.setCell,XN,Wy,h];rfl
theorem Ay {p:Addr}(h:g≠p.block)(u:Value):(w.setCell p u).heap[g]?=w.heap[g]?:=XZ _ _ _ _ h
theorem Ap.keep {o o':Own}{w w':Wd}{pb:Nat}{p:Ad}(h:Ap o w pb p)(hk:∀ g r,o g=some r->(r=.pool\/r=.slots\/r=.taken\/r=.free)->w'.heap[g]?=w.heap[g]?)(ho:∀ g r,o g=some r->o' g=some r):Ap o' w' pb p:=by
 obtain⟨vs,vt,vf,h1,h2,h3,h4⟩:=h.blk
 exact⟨ho _ _ h.own,⟨vs,vt,vf,(hk _ _ h.own (.inl rfl)).trans h1,h2.keep (fun g hg=>hk g _ hg (.inr (.inl rfl))) (fun g hg=>ho g _ hg),h3.keep (fun g hg=>hk g _ hg (.inr (.inr (.inl rfl)))) (fun g hg=>ho g _ hg),
  h4.keep (fun g hg=>hk g _ hg (.inr (.inr (.inr rfl)))) (fun g hg=>ho g _ hg)⟩,h.len,h.room,h.top,h.zero,h.pos,h.id,h.many,h.nodup,h.free,h.cnt⟩
theorem RowR.drew {o:Own}{w:Wd}{r:Role}{e:TypeId}{size:Nat}{v:Value}{n:Nat}{xs:List Value}(h:RowR o w r e size v n xs):RowR o w.drew r e size v n xs:=⟨h.len,h.ex⟩
theorem Chg.drew {R:Role->Prop}{o o':Own}{w w':Wd}(h:Chg R o o' w w'):Chg R o o' w w'.drew:=⟨h.os,h.tape,h.output,h.size,h.block,h.ext,h.new⟩
theorem Ap.drew {o:Own}{w:Wd}{pb:Nat}{p:Ad}(h:Ap o w pb p):Ap o w.drew pb p:=h.keep (fun _ _ _ _=>rfl) (fun _ _ h=>h)
theorem Ap.chg {o:Own}(h:Ap o w pb p)(hc:Chg R o o' w w')(hlt:Ac o w)(h1:¬ R .pool)(h2:¬ R .slots)(h3:¬ R .taken)(h4:¬ R .free):Ap o' w' pb p :=
 h.keep (fun g r hg hr=>hc.same hlt hg (by rcases hr with rfl|rfl|rfl|rfl<;>assumption)) hc.ext
theorem Ap.below {o:Own}(h:Ap o w pb p)(hb:Bw w w')(hlt:Ac o w):Ap o w' pb p :=
 h.keep (fun g r hg _=>hb.block g (hlt g r hg)) (fun _ _ h=>h)
theorem Ap.cells {o:Own}(h:Ap o w pb p):∃ vs vt vf,w.cell? (Av pb)=some (Iv p.room)/\w.cell? (Aw pb 1)=some vs/\w.cell? (Aw pb 2)=some vt/\w.cell? (Aw pb 3)=some vf /\
 w.cell? (Aw pb 4)=some (Iv p.many)/\RowR o w .slots 254 5 vs p.at_.length (p.at_.flatMap rnV)/\RowR o w .taken 4 1 vt p.taken.length (p.taken.map Value.bool) /\
 RowR o w .free 3 1 vf p.free.length (p.free.map nat64):=by
 obtain⟨vs,vt,vf,h1,h2,h3,h4⟩:=h.blk;exact⟨vs,vt,vf,by rw[Vt w pb 0 _ _ _ h1];rfl,by rw[Vt w pb 1 _ _ _ h1];rfl,by rw[Vt w pb 2 _ _ _ h1];rfl,by rw[Vt w pb 3 _ _ _ h1];rfl,by rw[Vt w pb 4 _ _ _ h1];rfl,h2,h3,h4⟩
theorem Ap.frozen {o:Own}{w:Wd}{pb:Nat}{p:Ad}(h:Ap o w pb p)(k:Nat):w.frozen? (Aw pb k)=false:=by
 obtain⟨vs,vt,vf,h1,_⟩:=h.blk;simp[World.frozen?,h1]
theorem Ap.tk_lt {o:Own}(h:Ap o w pb p)(hi:p.tk i=true):0<i/\i<p.at_.length:=by
 constructor
 ·rcases XY i with rfl|h0
  . rw[h.zero] at hi;cases hi
  . exact h0
 ·rcases VE i p.at_.length with h'|h'
  . exact h'
  . rw[<- h.len] at h';simp[Ad.tk,List.getD,VN h'] at hi
theorem Ap.flag {o:Own}{m:Nat}(h:RowR o w .taken 4 1 (.slice (some (Av g)) m cap) p.taken.length (p.taken.map Value.bool))(hk:k<p.taken.length):w.cell? (Aw g k)=some (.bool (p.tk k)):=by
 rw[h.cell k (by simpa using hk)];simp[Ad.tk,List.getD,hk]
theorem Ap.node {o:Own}{m:Nat}(h:RowR o w .slots 254 5 (.slice (some (Av g)) m cap) p.at_.length (p.at_.flatMap rnV))(hk:k<p.at_.length) :
 w.cell? (Aw g (k*5))=some (Iv (p.nd k).id)/\w.cell? (Aw g (k*5+1))=some (Iv (p.nd k).v)/\w.cell? (Aw g (k*5+2))=some (Iv (p.nd k).lo) /\
 w.cell? (Aw g (k*5+3))=some (Iv (p.nd k).hi)/\w.cell? (Aw g (k*5+4))=some (Iv (p.nd k).refs):=by
 have hx:p.at_[k]?=some (p.nd k):=by simp[Ad.nd,List.getD,hk]
 have hl:(p.at_.flatMap rnV).length=p.at_.length*5:=BV rnV 5 Fx _;have e:=fun j (hj:j<5)=>(h.cell (k*5+j) (by rw[hl];omega)).trans (D0 rnV 5 Fx p.at_ k j _ hx hj)
 exact⟨e 0 (by omega),e 1 (by omega),e 2 (by omega),e 3 (by omega),e 4 (by omega)⟩
theorem On (o:Own)(pb:Nat)(p:Ad)(w:Wd)(h:Ap o w pb p) :
 Cl 260 #[Pt pb] w (Sm (Iv p.many) w):=by
 obtain⟨vs,vt,vf,c0,c1,c2,c3,c4,_⟩:=h.cells
 go_enter func260,ntmps260
 go_wp2
 go_ret;exact⟨rfl,rfl⟩
theorem Oo (o:Own)(pb:Nat)(p:Ad)(w:Wd)(h:Ap o w pb p) :
 Cl 259 #[Pt pb] w (Sm (Iv p.room) w):=by
 obtain⟨vs,vt,vf,c0,c1,c2,c3,c4,_⟩:=h.cells
 go_enter func259,ntmps259
 go_wp2
 go_ret;exact⟨rfl,rfl⟩
theorem Fy (o:Own)(pb:Nat)(p:Ad)(i:Nat)(w:Wd)(h:Ap o w pb p) :
 Cl 261 #[Pt pb,Iv i] w (Sm (.bool (p.tk i)) w):=by
 obtain⟨vs,vt,vf,c0,c1,c2,c3,c4,hs,ht,_⟩:=h.cells;have g1:=h.pos;obtain⟨gs,cs,rfl,_⟩:=hs.shape g1;obtain⟨gt,ct,rfl,_⟩:=ht.shape (by rw[h.len];exact g1);have g4:=h.top;have g3:=h.room;have g0:=h.len;rw[g0] at c2
 by_cases h0:0<i
 ·have g5:(0:Int)<i:=by omega
  by_cases h1:i<p.at_.length
  ·have g2:(i:Int)<p.at_.length:=by omega
   have c5:=Ap.flag ht (k:=i) (by omega);obtain⟨b,hb⟩:∃ b,p.tk i=b:=⟨_,rfl⟩;rw[hb] at c5;rw[hb];clear g0 hb ht hs
   go_enter func261,ntmps261
   go_wp2
   go_ret;exact⟨rfl,rfl⟩
  ·have g2:¬ (i:Int)<p.at_.length:=by omega
   have HX:Hq (p.tk i=false):=by
    show _=_
    cases e:p.tk i with
    | false=>rfl
    | true=>exact absurd (h.tk_lt e).2 h1
   clear g0 ht hs
   go_enter func261,ntmps261
   go_wp2
   go_ret;exact⟨BD HX.o.symm,rfl⟩
 ·obtain rfl:i=0:=by omega
  have HX:=Hd h.zero;clear g0 ht hs
  go_enter func261,ntmps261
  go_wp2
  go_ret;exact⟨BD HX.o.symm,rfl⟩
abbrev Wu:=@List.drop_of_length_le
abbrev Wv:=@List.take_of_length_le
theorem GC {α:Type}(f:α->List Value)(s:Nat)(hf:∀ x,(f x).length=s):∀ (l:List α) (k:Nat) (y:α),k<l.length->(l.set k y).flatMap f=(l.flatMap f).take (k*s)++f y++(l.flatMap f).drop (k*s+s)
 | [],k,y,h=>by simp at h
 | x::l,0,y,_=>by
   simp only[List.set_cons_zero,WQ,Nat.zero_mul,List.take_zero,Ws,VW];rw[List.drop_append,Wu (l:=f x) (by simp[hf]),hf];simp
 | x::l,k+1,y,h=>by
   simp only[List.set_cons_succ,WQ];rw[GC f s hf l k y (by simpa using h),show (k+1)*s=s+k*s by rw[Xm];omega];rw[List.take_append,hf,Wv (l:=f x) (by rw[hf];omega),show s+k*s-s=k*s by omega];rw[List.drop_append,hf,Wu (l:=f x) (by rw[hf];omega),show s+k*s+s-s=k*s+s by omega];simp[VH]
abbrev WN:=@List.length_nil
theorem Oq (xs:List Value)(k:Nat)(a b c d e:Value)(h:k+5<=xs.length):((((xs.set k a).set (k+1) b).set (k+2) c).set (k+3) d).set (k+4) e=xs.take k++[a,b,c,d,e]++xs.drop (k+5):=by
 apply List.ext_getElem?;intro i;simp only[VY,VQ]
 by_cases h0:i<k
 . rw[VS (by simp;omega),VS (by simp;omega),Ya,Vw h0];rw[Vs (by omega),Vs (by omega),Vs (by omega),Vs (by omega),Vs (by omega)]
 ·by_cases h1:i<k+5
  ·rw[VS (by simp;omega),Wk (by simp;omega)];have hl:(xs.take k).length=k:=by simp;omega
   rw[hl];have:i=k\/i=k+1\/i=k+2\/i=k+3\/i=k+4:=by omega
   rcases this with rfl|rfl|rfl|rfl|rfl
   . simp;omega
   . simp;omega
   . simp;omega
   . simp;omega
   . simp;omega
  . rw[Vs (by omega),Vs (by omega),Vs (by omega),Vs (by omega),Vs (by omega)];rw[Wk (by simp;omega)];simp only[Vx,Wz,VO,WN,XK];congr 1;omega
def set5 (w:Wd)(g k:Nat)(n:RN):Wd :=
 ((((w.setCell (Aw g (k*5)) (Iv n.id)).setCell (Aw g (k*5+1)) (Iv n.v)).setCell (Aw g (k*5+2)) (Iv n.lo)).setCell (Aw g (k*5+3)) (Iv n.hi)).setCell (Aw g (k*5+4)) (Iv n.refs)
theorem Fz {o:Own}{m:Nat}{l:List RN}(h:RowR o w .slots 254 5 (.slice (some (Av g)) m cap) l.length (l.flatMap rnV))(hk:k<l.length)(n:RN) :
 RowR o (set5 w g k n) .slots 254 5 (.slice (some (Av g)) m cap) (l.set k n).length ((l.set k n).flatMap rnV):=by
 have h5:=((((h.stored (k*5) (Iv n.id)).stored (k*5+1) (Iv n.v)).stored (k*5+2) (Iv n.lo)).stored (k*5+3) (Iv n.hi)).stored (k*5+4) (Iv n.refs);rw[VQ];have hl:(l.flatMap rnV).length=l.length*5:=BV rnV 5 Fx _;rw[Oq _ _ _ _ _ _ _ (by rw[hl];omega)] at h5;rw[GC rnV 5 Fx l k n hk];exact h5
theorem F4 {o:Own}{n:RN}(h:Chg R o o' w0 w)(hg:o' g=some .slots)(hR:R .slots):Chg R o o' w0 (set5 w g k n) :=
 ((((h.setCell (p:=(Aw g (k*5))) hg hR _).setCell (p:=(Aw g (k*5+1))) hg hR _).setCell (p:=(Aw g (k*5+2))) hg hR _).setCell (p:=(Aw g (k*5+3))) hg hR _).setCell (p:=(Aw g (k*5+4))) hg hR _
theorem BG {n:RN}(hb:b≠g):(set5 w g k n).heap[b]?=w.heap[b]?:=by
 unfold set5;rw[Ay hb,Ay hb,Ay hb,Ay hb,Ay hb]
theorem CR {n:RN}(hk:k<p.at_.length)(i:Nat):({ p with at_:=p.at_.set k n }:Ad).nd i=if i=k then n else p.nd i:=by
 unfold Ad.nd;dsimp only
 by_cases e:i=k
 . subst e;simp[List.getD,hk]
 . simp only[List.getD,VY,Vs (Wn e),Vs e]
def Ad.setNd (p:Ad)(k:Nat)(n:RN):Ad:={ p with at_:=p.at_.set k n }
theorem Ad.setNd_get {n:RN}(hk:k<p.at_.length)(ht:p.tk k=true)(i:Nat):(p.setNd k n).get i=if i=k then some n else p.get i:=by
 unfold Ad.get;have:(p.setNd k n).tk i=p.tk i:=rfl;rw[this,show (p.setNd k n).nd i=if i=k then n else p.nd i from CR hk i]
 by_cases e:i=k
 . subst e;simp[ht]
 . simp[e]
theorem Ap.setNd {o:Own}{w:Wd}{pb g cap m:Nat}{p:Ad}(h:Ap o w pb p)(hlt:Ac o w){vs:Value}(hc:w.cell? (Aw pb 1)=some vs)(hv:vs=.slice (some (Av g)) m cap){k:Nat}{n:RN}(hk:p.tk k=true)(hn:n.id=k) :
 Ap o (set5 w g k n) pb (p.setNd k n):=by
 subst hv;obtain⟨vs,vt,vf,h1,h2,h3,h4⟩:=h.blk;have e1:vs=.slice (some (Av g)) m cap:=by
  rw[Vt w pb 1 _ _ _ h1] at hc;simpa using hc
 subst e1;have hg:=h2.owner;obtain⟨_,g1⟩:=h.tk_lt hk;have g0:∀ {b r},o b=some r->r ≠ .slots->b≠g:=fun hb hr e=>by subst e;rw[hg] at hb;cases hb;exact hr rfl
 refine⟨h.own,⟨_,vt,vf,(BG (g0 h.own (by simp))).trans h1,Fz h2 g1 n,h3.keep (fun b hb=>BG (g0 hb (by simp))) (fun _ h=>h),h4.keep (fun b hb=>BG (g0 hb (by simp))) (fun _ h=>h)⟩,?_,h.room,?_,h.zero,?_,?_,?_,h.nodup,?_,?_⟩
 . simp only[Ad.setNd,VQ];exact h.len
 . simp only[Ad.setNd,VQ];exact h.top
 . simp only[Ad.setNd,VQ];exact h.pos
 ·intro i hi;rw[show (p.setNd k n).nd i=if i=k then n else p.nd i from CR g1 i];split
  . rename_i e;rw[e];exact hn
  . exact h.id i hi
 . simp only[Ad.setNd,VQ];exact h.many
 . simp only[Ad.setNd,VQ];exact h.free
 . simp only[Ad.setNd,VQ];exact h.cnt
abbrev VR:=@bodyPost_ret
theorem JZ (o:Own)(pb:Nat)(p:Ad)(i:Nat)(w:Wd)(h:Ap o w pb p)(hlt:Ac o w)(hi:p.tk i=true) :
 Cl 228 #[Pt pb,Iv i] w (Bl (.tuple #[An (p.nd i),.bool true]) w):=by
 obtain⟨vs,vt,vf,c0,c1,c2,c3,c4,hs,ht,_⟩:=h.cells;have g0:=h.pos;obtain⟨gs,cs,rfl,_⟩:=hs.shape g0;have g2:=h.top;have g1:=h.room;obtain⟨h0,h1⟩:=h.tk_lt hi;have g3:(i:Int)<p.at_.length:=by omega
 obtain⟨d0,d1,d2,d3,d4⟩:=Ap.node hs (k:=i) h1;obtain⟨n,hn⟩:∃ n,p.nd i=n:=⟨_,rfl⟩;rw[hn] at d0 d1 d2 d3 d4;rw[hn];have HH:=Hd (h.below (Ah w (.cells #[Iv 0,Iv 0,Iv 0,Iv 0,Iv 0] 254)) hlt);have HI:=Hd hi;have l0:pb<w.heap.size:=Af c1;have l1:gs<w.heap.size:=Af d0;clear hn hs ht h hi hlt
 go_enter func228,ntmps228
 go_wp2_with fail;refine(Fy o pb p i _ HH.o).mono ?_;rintro x w' ⟨rfl,rfl⟩;rw[HI.o];go_wp2_with fail;exact VR (v:=.tuple #[An n,.bool true]) (by simp[results,Tryz.results228,go_sem,An]) rfl ⟨rfl,Ah w _⟩
theorem Ot (o:Own)(pb:Nat)(p:Ad)(i:Nat)(w:Wd)(h:Ap o w pb p)(hlt:Ac o w)(hi:p.tk i=false) :
 Cl 228 #[Pt pb,Iv i] w (Bl (.tuple #[An rn0,.bool false]) w):=by
 have HH:=Hd (h.below (Ah w (.cells #[Iv 0,Iv 0,Iv 0,Iv 0,Iv 0] 254)) hlt);have HI:=Hd hi;clear h hi hlt
 go_enter func228,ntmps228
 go_wp2_with fail;refine(Fy o pb p i _ HH.o).mono ?_;rintro x w' ⟨rfl,rfl⟩;rw[HI.o];go_wp2_with fail;exact VR (v:=.tuple #[An rn0,.bool false]) (by simp[results,Tryz.results228,go_sem,An,rn0]) rfl ⟨rfl,Ah w _⟩
theorem GD (o:Own)(pb:Nat)(p:Ad)(n:RN)(w:Wd)(h:Ap o w pb p)(hlt:Ac o w)(hi:p.tk n.id=true) :
 Cl 224 #[Pt pb,An n] w fun x w'=>x=.returned (Iv 0)/\Ap o w' pb (p.setNd n.id n)/\Chg (· = .slots) o o w w'/\Ac o w':=by
 obtain⟨vs,vt,vf,c0,c1,c2,c3,c4,hs,ht,_⟩:=h.cells;have g4:=h.pos;obtain⟨gs,cs,rfl,g2,_⟩:=hs.shape g4;have g6:=h.top;have g5:=h.room;obtain⟨h0,h1⟩:=h.tk_lt hi;have g7:(n.id:Int)<p.at_.length:=by omega
 obtain⟨W,hW⟩:=Ex (w.alloc (.cells #[Iv n.id,Iv n.v,Iv n.lo,Iv n.hi,Iv n.refs] 254));have g0:Bw w W:=by rw[hW];exact Ah w _
 have g3:=h.below g0 hlt;have g1:Ac o W:=hlt.mono g0.size;obtain⟨b,hb⟩:=Ex w.heap.size;have b0:W.cell? (Av b)=some (Iv n.id):=by rw[hW,hb];simp
 have b1:W.cell? (Aw b 1)=some (Iv n.v):=by rw[hW,hb];simp
 have b2:W.cell? (Aw b 2)=some (Iv n.lo):=by rw[hW,hb];simp
 have b3:W.cell? (Aw b 3)=some (Iv n.hi):=by rw[hW,hb];simp
 have b4:W.cell? (Aw b 4)=some (Iv n.refs):=by rw[hW,hb];simp
 have e1:W.cell? (Aw pb 1)=some (.slice (some (Av gs)) p.at_.length cs):=Cq g0 c1;have hd:=Ap.node (hs.keep (fun g hg=>g0.block g (hlt g _ hg)) (fun _ h=>h)) (k:=n.id) h1;obtain⟨d0,d1,d2,d3,d4⟩:=hd;have f0:∀ k,W.frozen? (Aw gs k)=false:=(hs.keep (fun g hg=>g0.block g (hlt g _ hg)) (fun _ h=>h)).frozen;have HC:Hq (Chg (· = .slots) o o w W):=by show Chg _ _ _ _ _;rw[hW];exact(Chg.refl _ _ _).alloc _
 have HP:=Hd g3;have HL:=Hd g1;have HI:=Hd hi;have HO:=Hd g2;have HE:=Hd e1;have HW:=Hd hW;have HB:=Hd hb;clear hs ht h hi hlt g2 c0 c1 c2 c3 c4 g0 g3 g1 hW hb;unfold An
 go_enter func224,ntmps224
 go_wp2_with (fail);rw[<- HW.o,<- HB.o];go_wp2_with (fail);refine(Fy o pb p n.id _ HP.o).mono ?_;rintro x w' ⟨rfl,rfl⟩;rw[HI.o];go_wp2_with fail;refine AJ (fun w'=>w'=W.drew) true 8 [(0,false),(1,false),(2,false),(3,false),(4,false),(5,false),(6,false),(7,false),(8,true)] (by kernel_rfl) (by kernel_rfl) rfl ?_;simp only[planned,AH]
 iterate 8
  refine Aq rfl ?_;apply Exists.intro;refine⟨fun w' hw=>?_,?_⟩
  . subst hw;go_simp;rfl
  simp only[Ab]
 refine Di rfl (fun K hK=>?_);unfold Oper.wp;go_simp;refine hK _ _ (Cm ?_);go_wp2_with fail;go_ret;exact⟨rfl,(HP.o.setNd HL.o HE.o rfl HI.o rfl).drew,(F4 HC.o HO.o rfl).drew,HL.o.mono (by simp[set5,World.setCell])⟩
def Ad.reuse (p:Ad)(id:Nat)(n:RN):Ad:={ p with at_:=p.at_.set id { n with id:=id },taken:=p.taken.set id true,free:=p.free.dropLast,many:=p.many+1 }
def Ad.fresh (p:Ad)(n:RN):Ad:={ p with at_:=p.at_++[{ n with id:=p.at_.length }],taken:=p.taken++[true],many:=p.many+1 }
theorem E8 {l:List Bool}{b:Bool}(hk:k<l.length)(i:Nat):(l.set k b).getD i false=if i=k then b else l.getD i false:=by
 by_cases e:i=k
 . subst e;simp[List.getD,hk]
 . simp only[List.getD,VY,Vs (Wn e),Vs e]
theorem Ad.reuse_get {n:RN}(h1:id<p.at_.length)(h2:id<p.taken.length)(i:Nat):(p.reuse id n).get i=if i=id then some { n with id:=id } else p.get i:=by
 unfold Ad.get;have e1:(p.reuse id n).tk i=if i=id then true else p.tk i:=E8 h2 i
 have e2:(p.reuse id n).nd i=if i=id then { n with id:=id } else p.nd i:=CR h1 i
 rw[e1,e2]
 by_cases e:i=id<;>simp[e]
theorem Ad.fresh_get {n:RN}(hl:p.taken.length=p.at_.length)(i:Nat):(p.fresh n).get i=if i=p.at_.length then some { n with id:=p.at_.length } else p.get i:=by
 unfold Ad.get Ad.tk Ad.nd Ad.fresh;dsimp only;rcases Xz i p.at_.length with h|h|h
 ·have g0:i≠p.at_.length:=by omega
  simp[List.getD,VS,h,hl,g0]
 . subst h;simp[List.getD,Wk,hl]
 ·have g0:i≠p.at_.length:=by omega
  have h1:p.at_.length<=i:=by omega
  have h2:p.taken.length<=i:=by omega
  have h3:i-p.at_.length≠0:=by omega
  simp[List.getD,Wk,h1,hl,g0,VN,h3]
theorem Ap.freeCell {o:Own}{m:Nat}(h:RowR o w .free 3 1 (.slice (some (Av g)) m cap) p.free.length (p.free.map nat64))(hk:p.free[k]?=some x):w.cell? (Aw g k)=some (Iv x):=by
 have hl:k<p.free.length:=by
  rcases VE k p.free.length with h'|h'
  . exact h'
  . rw[VN h'] at hk;cases hk
 rw[h.cell k (by simpa using hl),WP,hk];rfl
theorem F5 {fs:List Nat}:(fs++[id]).dropLast=fs:=by simp
theorem Ad.reuse_tk {n:RN}(h:id<p.taken.length)(i:Nat):(p.reuse id n).tk i=if i=id then true else p.tk i:=E8 h i
abbrev VU:=@List.map_append
theorem Ap.toReuse {o:Own}{gs gt cs ct cf:Nat}(h:Ap o w pb p)(hlt:Ac o w){fs:List Nat}{n:RN}(hf:p.free=fs++[id])
 (c1:w.cell? (Aw pb 1)=some (.slice (some (Av gs)) p.at_.length cs)) (c2:w.cell? (Aw pb 2)=some (.slice (some (Av gt)) p.at_.length ct)) (c3:w.cell? (Aw pb 3)=some (.slice (some (Av gf)) (fs.length+1) cf))
 (hcf:fs.length+1<=cf) (hW:Below w.heap.size (w.setCell (Aw pb 3) (.slice (some (Av gf)) fs.length fs.length)) W) :
 Ap o (((set5 W gs id { n with id:=id }).setCell (Aw gt id) (.bool true)).setCell (Aw pb 4) (Iv ((p.many+1:Nat):Int))) pb (p.reuse id n) /\
 Chg (fun r=>r=.pool\/r=.slots\/r=.taken\/r=.free) o o w (((set5 W gs id { n with id:=id }).setCell (Aw gt id) (.bool true)).setCell (Aw pb 4) (Iv ((p.many+1:Nat):Int))):=by
 obtain⟨vs,vt,vf,h1,h2,h3,h4⟩:=h.blk;have e1:vs=.slice (some (Av gs)) p.at_.length cs:=by rw[Vt w pb 1 _ _ _ h1] at c1;simpa using c1
 have e2:vt=.slice (some (Av gt)) p.at_.length ct:=by rw[Vt w pb 2 _ _ _ h1] at c2;simpa using c2
 have e3:vf=.slice (some (Av gf)) (fs.length+1) cf:=by rw[Vt w pb 3 _ _ _ h1] at c3;simpa using c3
 subst e1 e2 e3;have os:=h2.owner;have ot:=h3.owner;have of:=h4.owner;have ne:∀ {a b r q},o a=some r->o b=some q->r≠q->a≠b:=fun ha hb hr e=>by subst e;rw[ha] at hb;cases hb;exact hr rfl
 obtain⟨i0,i1,i2⟩:=h.free id (by rw[hf];simp);have old:∀ g r,o g=some r->g≠pb->W.heap[g]?=w.heap[g]?:=fun g r hg g0=>(hW.block g (hlt g r hg)).trans (Ay g0 _)
 have g3:W.heap[pb]?=some (.cells #[Iv p.room,.slice (some (Av gs)) p.at_.length cs,.slice (some (Av gt)) p.at_.length ct,.slice (some (Av gf)) fs.length fs.length,Iv p.many] 227 (0,0)) :=
  (hW.block pb (hlt pb _ h.own)).trans (A2 h1 _)
 have g2:RowR o W .slots 254 5 (.slice (some (Av gs)) p.at_.length cs) p.at_.length (p.at_.flatMap rnV):=h2.keep (fun g hg=>old g _ hg (ne hg h.own (by simp))) (fun _ h=>h);have g1:RowR o W .taken 4 1 (.slice (some (Av gt)) p.at_.length ct) p.taken.length (p.taken.map Value.bool):=h3.keep (fun g hg=>old g _ hg (ne hg h.own (by simp))) (fun _ h=>h);have g4:RowR o W .free 3 1 (.slice (some (Av gf)) fs.length fs.length) fs.length (fs.map nat64):=by
  have:=(h4.keep (w':=W) (o':=o) (fun g hg=>old g _ hg (ne hg h.own (by simp))) (fun _ h=>h)).shrink (m':=fs.length) (cap':=fs.length) (by rw[hf];simp) (by omega) (Vu _);rw[hf,VU,Nat.mul_one,List.take_left' (by simp)] at this;exact this
 refine⟨⟨h.own,⟨.slice (some (Av gs)) p.at_.length cs,.slice (some (Av gt)) p.at_.length ct,.slice (some (Av gf)) fs.length fs.length,?_,?_,?_,?_⟩,?_,h.room,?_,?_,?_,?_,?_,?_,?_,?_⟩,?_⟩
 . have e:((set5 W gs id { n with id:=id }).setCell (Aw gt id) (.bool true)).heap[pb]?=W.heap[pb]?:=(Ay (ne h.own ot (by simp)) _).trans (BG (ne h.own os (by simp)));exact A2 (e.trans g3) _
 . exact((Fz g2 i1 _).setCell_other (p:=Aw gt id) (by rw[ot];simp) _).setCell_other (p:=Aw pb 4) (by rw[h.own];simp) _
 . have a1:=(g1.keep (w':=set5 W gs id { n with id:=id }) (o':=o) (fun g hg=>BG (ne hg os (by simp))) (fun _ h=>h)).stored id (.bool true);have a2:=a1.setCell_other (p:=Aw pb 4) (by rw[h.own];simp) (Iv ((p.many+1:Nat):Int));simp only[Ad.reuse,VQ,X9];exact a2
 . have a1:=((g4.keep (w':=set5 W gs id { n with id:=id }) (o':=o) (fun g hg=>BG (ne hg os (by simp))) (fun _ h=>h)).setCell_other (p:=Aw gt id) (by rw[ot];simp) (.bool true)).setCell_other (p:=Aw pb 4) (by rw[h.own];simp) (Iv ((p.many+1:Nat):Int));simp only[Ad.reuse,hf,F5];exact a1
 . simp only[Ad.reuse,VQ];exact h.len
 . simp only[Ad.reuse,VQ];exact h.top
 . rw[Ad.reuse_tk (by rw[h.len];exact i1),Vs (by omega)];exact h.zero
 . simp only[Ad.reuse,VQ];exact h.pos
 ·intro i hi;rw[Ad.reuse_tk (by rw[h.len];exact i1)] at hi;rw[show (p.reuse id n).nd i=if i=id then { n with id:=id } else p.nd i from CR i1 i];split
  . rename_i e;exact e.symm
  . rename_i e;rw[Vs e] at hi;exact h.id i hi
 . have:=h.many;simp only[Ad.reuse,VQ,hf,F5] at *;simp at this;omega
 . have:=h.nodup;simp only[Ad.reuse,hf,F5] at *;exact(Wh.1 this).1
 ·intro i hi;have hn:=h.nodup;simp only[Ad.reuse,hf,F5] at hi hn;have g0:i≠id:=by
   rintro rfl;exact(Wh.1 hn).2.2 i hi i (by simp) rfl
  have:=h.free i (by rw[hf];simp[hi]);rw[Ad.reuse_tk (by rw[h.len];exact i1),Vs g0];simp only[Ad.reuse,VQ];exact this
 ·have hc:=h.cnt;have:Ag (p.reuse id n).at_.length (fun i=>if (p.reuse id n).tk i=true then 1 else 0)=Ag p.at_.length (fun i=>if p.tk i=true then 1 else 0)+((if (p.reuse id n).tk id=true then 1 else 0)-(if p.tk id=true then 1 else 0)):=by
   have hl:(p.reuse id n).at_.length=p.at_.length:=by simp[Ad.reuse]
   rw[hl];refine CQ (fun i hi=>?_) _ i1;rw[Ad.reuse_tk (by rw[h.len];exact i1),Vs hi]
  rw[this,Ad.reuse_tk (by rw[h.len];exact i1),Vw rfl,i2,<- hc];simp[Ad.reuse]
 ·have c0:Chg (fun r=>r=.pool\/r=.slots\/r=.taken\/r=.free) o o w W :=
   ((Chg.refl _ o w).setCell (p:=Aw pb 3) h.own (.inl rfl) _).trans (Chg.of_below (by simpa [World.setCell,Bw] using hW) _ _)
  exact((F4 c0 os (.inr (.inl rfl))).setCell (p:=Aw gt id) ot (.inr (.inr (.inl rfl))) _).setCell (p:=Aw pb 4) h.own (.inl rfl) _
abbrev Xn:=@World.frozen?_setCell
theorem Ou (o:Own)(pb:Nat)(p:Ad)(n:RN)(fs:List Nat)(id:Nat)(w:Wd)(h:Ap o w pb p)(hlt:Ac o w)(hf:p.free=fs++[id]) :
 Cl 264 #[Pt pb,An n] w fun x w'=>x=.returned (.tuple #[Iv id,Iv 0])/\Ap o w' pb (p.reuse id n)/\Chg (fun r=>r=.pool\/r=.slots\/r=.taken\/r=.free) o o w w'/\Ac o w':=by
 obtain⟨vs,vt,vf,c0,c1,c2,c3,c4,hs,ht,ga⟩:=h.cells;have g9:=h.pos;obtain⟨gs,cs,rfl,g6,_⟩:=hs.shape g9;obtain⟨gt,ct,rfl,g4,_⟩:=ht.shape (by rw[h.len];exact g9);obtain⟨gf,cf,rfl,g7,gg,gj⟩:=ga.shape (by rw[hf];simp);have gm:=h.top;have gl:=h.room;have gc:=h.many;have gh:=h.free id (by rw[hf];simp);obtain⟨i0,i1,i2⟩:=gh;have ge:p.free.length=fs.length+1:=by rw[hf];simp
 have d:=Ap.freeCell ga (k:=fs.length) (x:=id) (by rw[hf];simp);have f3:=h.frozen 3;have f4:=h.frozen 4;have fs0:=hs.frozen;have ft0:=ht.frozen id;have n0:=Ap.node hs (k:=id) i1;obtain⟨n0,n1,n2,n3,n4⟩:=n0;have t0:=Ap.flag ht (k:=id) (by rw[h.len];exact i1);rw[ge] at c3 gg;rw[h.len] at c2;have lpb:pb<w.heap.size:=Af c0;have lgs:gs<w.heap.size:=Af n0;have lgt:gt<w.heap.size:=Af t0;have lgf:gf<w.heap.size:=Af d;have i1':(id:Int)<p.at_.length:=by omega
 have nes:pb≠gs:=by rintro rfl;rw[h.own] at g6;cases g6
 have net:pb≠gt:=by rintro rfl;rw[h.own] at g4;cases g4
 have nef:pb≠gf:=by rintro rfl;rw[h.own] at g7;cases g7
 have nst:gs≠gt:=by rintro rfl;rw[g6] at g4;cases g4
 have HH:=Hd h;have HL:=Hd hlt;have HF:=Hd hf;unfold maxLen at gj;clear h hlt hf hs ht ga ge gc i2 g6 g4 g7;unfold An
 go_enter func264,ntmps264
 go_wp2_with (fail);obtain⟨W1,g8⟩:=Ex ((w.setCell (Aw pb 3) (.slice (some (Av gf)) fs.length fs.length)).alloc (.cells #[Iv id,Iv n.v,Iv n.lo,Iv n.hi,Iv n.refs] 254));obtain⟨b,hb⟩:=Ex w.heap.size;rw[<- g8,<- hb];have g5:Below w.heap.size (w.setCell (Aw pb 3) (.slice (some (Av gf)) fs.length fs.length)) W1:=by rw[g8];exact(VI _ _).alloc (by simp[World.setCell]) _
 have g3:=fun W (hW:Below w.heap.size W1 W)=>HH.o.toReuse HL.o HF.o (n:=n) (W:=W) c1 c2 c3 gg (g5.trans hW)
 have hB:W1.heap[b]?=some (.cells #[Iv id,Iv n.v,Iv n.lo,Iv n.hi,Iv n.refs] 254 (0,0)):=by
  rw[g8,hb];have:=Vv (w.setCell (Aw pb 3) (.slice (some (Av gf)) fs.length fs.length)) (.cells #[Iv id,Iv n.v,Iv n.lo,Iv n.hi,Iv n.refs] 254);rw[show (w.setCell (Aw pb 3) (.slice (some (Av gf)) fs.length fs.length)).heap.size=w.heap.size by simp[World.setCell]] at this;exact this
 have b0:W1.cell? (Av b)=some (Iv id):=by rw[Vt W1 b 0 _ _ _ hB];rfl
 have b1:W1.cell? (Aw b 1)=some (Iv n.v):=by rw[Vt W1 b 1 _ _ _ hB];rfl
 have b2:W1.cell? (Aw b 2)=some (Iv n.lo):=by rw[Vt W1 b 2 _ _ _ hB];rfl
 have b3:W1.cell? (Aw b 3)=some (Iv n.hi):=by rw[Vt W1 b 3 _ _ _ hB];rfl
 have b4:W1.cell? (Aw b 4)=some (Iv n.refs):=by rw[Vt W1 b 4 _ _ _ hB];rfl
 have old:∀ g k,g<w.heap.size->(g≠pb\/k≠3)->W1.cell? (Aw g k)=w.cell? (Aw g k):=by
  intro g k hg gd;refine(g5.cell (p:=Aw g k) hg).trans ?_;exact World.cell?_setCell_other w _ _ _ (by intro e;cases e;simp at gd)
 have oldf:∀ g k,g<w.heap.size->g≠pb->W1.frozen? (Aw g k)=w.frozen? (Aw g k):=by
  intro g k hg gd;refine(g5.frozen (p:=Aw g k) hg).trans ?_;exact Xn _ _ _ _
 have p1:=(old pb 1 lpb (.inr (by omega))).trans c1;have p2:=(old pb 2 lpb (.inr (by omega))).trans c2;have p4:=(old pb 4 lpb (.inr (by omega))).trans c4;have q0:=(old gs (id*5) lgs (.inl (Wn nes))).trans n0;have q1:=(old gs (id*5+1) lgs (.inl (Wn nes))).trans n1;have q2:=(old gs (id*5+2) lgs (.inl (Wn nes))).trans n2;have q3:=(old gs (id*5+3) lgs (.inl (Wn nes))).trans n3;have q4:=(old gs (id*5+4) lgs (.inl (Wn nes))).trans n4;have qt:=(old gt id lgt (.inl (Wn net))).trans t0;have g0:∀ k,W1.frozen? (Aw gs k)=false:=fun k=>(oldf gs k lgs (Wn nes)).trans (fs0 k)
 have g1:W1.frozen? (Aw gt id)=false:=(oldf gt id lgt (Wn net)).trans ft0;have g2:W1.frozen? (Aw pb 4)=false:=by
  refine(g5.frozen (p:=Aw pb 4) lpb).trans ?_;rw[Xn];exact f4
 have nbs:b≠gs:=by omega
 have HS:Hq (∀ W:Wd,(∀ g,g≠gs->W.heap[g]?=W1.heap[g]?)->W.cell? (Aw pb 1)=some (.slice (some (Av gs)) p.at_.length cs)/\W.cell? (Aw pb 2)=some (.slice (some (Av gt)) p.at_.length ct) /\
  W.cell? (Av b)=some (Iv id)/\W.cell? (Aw b 1)=some (Iv n.v)/\W.cell? (Aw b 2)=some (Iv n.lo)/\W.cell? (Aw b 3)=some (Iv n.hi)/\W.cell? (Aw b 4)=some (Iv n.refs)):=by
  show ∀ _,_
  intro W hW;have a:=fun g k (hg:g≠gs)=>Wl (w:=W1) (w':=W) (a:=Aw g k) (hW g hg)
  exact⟨(a pb 1 nes).trans p1,(a pb 2 nes).trans p2,(a b 0 nbs).trans b0,(a b 1 nbs).trans b1,(a b 2 nbs).trans b2,(a b 3 nbs).trans b3,(a b 4 nbs).trans b4⟩
 have gi:=Hd g3;have gk:Hq (Ac o W1):=by show Ac _ _;exact HL.o.mono (by have:=g5.size;simpa [World.setCell] using this)
 have gn:p.many<1048577:=by have:=HH.o.many;omega
 have go:(p.many:Int)+1<9223372036854775807:=by omega
 clear g3 old oldf g5 g8 hb hB n0 n1 n2 n3 n4 t0 c0 c1 c2 c3 c4 d f3 f4 fs0 ft0
 refine AJ (fun W:Wd=>W.cell? (Aw pb 1)=some (.slice (some (Av gs)) p.at_.length cs)/\W.cell? (Aw pb 2)=some (.slice (some (Av gt)) p.at_.length ct) /\
  W.cell? (Av b)=some (Iv id)/\W.cell? (Aw b 1)=some (Iv n.v)/\W.cell? (Aw b 2)=some (Iv n.lo)/\W.cell? (Aw b 3)=some (Iv n.hi)/\W.cell? (Aw b 4)=some (Iv n.refs)) true 14
  [(0,false),(1,false),(2,false),(3,false),(4,false),(5,false),(6,false),(7,false),(8,false),(9,false),(10,false),(11,false),(12,true),(13,false),(14,true)] (by kernel_rfl) (by kernel_rfl) (HS.o _ (fun _ _=>rfl)) ?_
 simp only[planned,AH]
 iterate 12
  refine Aq rfl ?_;apply Exists.intro;refine⟨fun w' hw=>?_,?_⟩
  . obtain⟨h1,h2,h3,h4,h5,h6,h7⟩:=hw;go_simp;rfl
  simp only[Ab]
 refine E7 rfl (fun K hK=>?_);unfold Oper.wp;go_simp;refine hK _ _ (HS.o _ (fun g hg=>BG (w:=W1) (n:=⟨id,n.v,n.lo,n.hi,n.refs⟩) hg)) ?_
 iterate 1
  refine Aq rfl ?_;apply Exists.intro;refine⟨fun w' hw=>?_,?_⟩
  . obtain⟨h1,h2,h3,h4,h5,h6,h7⟩:=hw;go_simp;rfl
  simp only[Ab]
 refine Di rfl (fun K hK=>?_);unfold Oper.wp;go_simp;refine hK _ _ (Cm ?_);go_wp2_with fail
 go_ret2
 have g3:=gi.o W1 (VI _ _);rw[show ((p.many+1:Nat):Int)=(p.many:Int)+1 by omega] at g3;exact⟨rfl,g3.1.drew,g3.2.drew,gk.o.mono (by simp[World.setCell])⟩
theorem Ov (o:Own)(pb:Nat)(p:Ad)(n:RN)(w:Wd)(h:Ap o w pb p)(hf:p.free=[])(hfull:p.room<p.at_.length) :
 Cl 264 #[Pt pb,An n] w (Bl (.tuple #[Iv 0,Iv 7]) w):=by
 obtain⟨vs,vt,vf,c0,c1,c2,c3,c4,hs,ht,g0⟩:=h.cells;obtain⟨gs,cs,rfl,_⟩:=hs.shape h.pos;obtain⟨af,cf,rfl,_⟩:=g0.slice;rw[hf] at c3;have g1:(p.room:Int)<p.at_.length:=by omega
 have lpb:pb<w.heap.size:=Af c0;have g3:=h.top;have g2:=h.room;clear hs ht g0 h hf;unfold An
 go_enter func264,ntmps264
 go_wp2_with (fail)
 go_quiet (fail)
 go_wp2_with (fail)
 go_ret2
 exact⟨rfl,by first|exact Ah w _|exact Fi w _ _⟩
theorem cells5 {a b c d e:Value}(h:w.heap[g]?=some (.cells #[a,b,c,d,e] T (0,0))):w.cell? (Av g)=some a/\w.cell? (Aw g 1)=some b/\w.cell? (Aw g 2)=some c/\w.cell? (Aw g 3)=some d/\w.cell? (Aw g 4)=some e/\(∀ k,w.frozen? (Aw g k)=false) :=
 ⟨by rw[Vt w g 0 _ _ _ h];rfl,by rw[Vt w g 1 _ _ _ h];rfl,by rw[Vt w g 2 _ _ _ h];rfl,by rw[Vt w g 3 _ _ _ h];rfl,by rw[Vt w g 4 _ _ _ h];rfl,fun k=>by simp[World.frozen?,h]⟩
theorem Ac.none {o:Own}{w:Wd}(h:Ac o w){b:Nat}(hb:w.heap.size<=b):o b=Option.none:=by
 cases e:o b with
 | none=>rfl
 | some r=>have:=h b r e;omega
theorem RowR.below {o:Own}{r:Role}{e:TypeId}{size:Nat}{xs:List Value}(h:RowR o w r e size v n xs)(hlt:Ac o w)(hb:Bw w w'):RowR o w' r e size v n xs :=
 h.keep (fun g hg=>hb.block g (hlt g r hg)) (fun _ h=>h)
theorem F6:(prog.info? 254).map (fun i=>(i.zero,i.size,i.bytes))=some (some (.agg #[Iv 0,Iv 0,Iv 0,Iv 0,Iv 0]),5,40):=by kernel_rfl
theorem GE:(prog.info? 4).map (fun i=>(i.zero,i.size,i.bytes))=some (some (.bool false),1,1):=by kernel_rfl
abbrev X8:=@List.set_append_right
theorem Ap.toFresh {o:Own}{gs gt cs ct:Nat}(h:Ap o w pb p){n:RN}(hf:p.free=[])(hr:p.at_.length<=p.room)(hopb:o' pb=some .pool)
 (hpb:W.heap[pb]?=some (.cells #[Iv p.room,.slice (some (Av gs)) (p.at_.length+1) cs,.slice (some (Av gt)) (p.at_.length+1) ct,vf,Iv p.many] 227 (0,0)))
 (h2:RowR o' W .slots 254 5 (.slice (some (Av gs)) (p.at_.length+1) cs) (p.at_.length+1) ((p.at_++[rn0]).flatMap rnV))
 (h3:RowR o' W .taken 4 1 (.slice (some (Av gt)) (p.at_.length+1) ct) (p.at_.length+1) ((p.taken++[false]).map Value.bool))
 (h4:RowR o' W .free 3 1 vf p.free.length (p.free.map nat64)) :
 Ap o' (((set5 W gs p.at_.length { n with id:=p.at_.length }).setCell (Aw gt p.at_.length) (.bool true)).setCell (Aw pb 4) (Iv ((p.many+1:Nat):Int))) pb (p.fresh n) /\
 Chg (fun r=>r=.pool\/r=.slots\/r=.taken\/r=.free) o' o' W (((set5 W gs p.at_.length { n with id:=p.at_.length }).setCell (Aw gt p.at_.length) (.bool true)).setCell (Aw pb 4) (Iv ((p.many+1:Nat):Int))):=by
 have os:=h2.owner;have ot:=h3.owner;have ne:∀ {a b r q},o' a=some r->o' b=some q->r≠q->a≠b:=fun ha hb hr e=>by subst e;rw[ha] at hb;cases hb;exact hr rfl
 have hl:p.taken.length=p.at_.length:=h.len;have g2:(p.at_++[rn0]).set p.at_.length { n with id:=p.at_.length }=p.at_++[{ n with id:=p.at_.length }]:=by
  rw[X8 _ _ (Vu _)];simp
 have g0:∀ i,(p.fresh n).tk i=(p.tk i||i == p.at_.length):=by
  intro i;unfold Ad.tk Ad.fresh;dsimp only;rcases Xz i p.taken.length with h'|h'|h'
  ·have g1:i≠p.at_.length:=by omega
   simp[List.getD,VS,h',g1]
  . subst h';simp[List.getD,hl]
  ·have g1:i≠p.at_.length:=by omega
   have h1:i-p.taken.length≠0:=by omega
   have h0:p.taken.length<=i:=by omega
   simp[List.getD,Wk,h0,g1,h1]
 have g4:∀ i,i≠p.at_.length->(p.fresh n).nd i=p.nd i:=by
  intro i hi;unfold Ad.nd Ad.fresh;dsimp only;rcases VE i p.at_.length with h'|h'
  . simp[List.getD,VS,h']
  ·have h1:i-p.at_.length≠0:=by omega
   simp[List.getD,Wk,h',h1]
 refine⟨⟨hopb,⟨.slice (some (Av gs)) (p.at_.length+1) cs,.slice (some (Av gt)) (p.at_.length+1) ct,vf,?_,?_,?_,?_⟩,?_,h.room,?_,?_,?_,?_,?_,?_,?_,?_⟩,?_⟩
 . have e:((set5 W gs p.at_.length { n with id:=p.at_.length }).setCell (Aw gt p.at_.length) (.bool true)).heap[pb]?=W.heap[pb]?:=(Ay (ne hopb ot (by simp)) _).trans (BG (ne hopb os (by simp)));exact A2 (e.trans hpb) _
 . have a0:=Fz (l:=p.at_++[rn0]) (by simpa using h2) (k:=p.at_.length) (by simp) { n with id:=p.at_.length };have a1:=(a0.setCell_other (p:=Aw gt p.at_.length) (by rw[ot];simp) (.bool true)).setCell_other (p:=Aw pb 4) (by rw[hopb];simp) (Iv ((p.many+1:Nat):Int));rw[g2] at a1;simpa [Ad.fresh] using a1
 . have a1:=(h3.keep (w':=set5 W gs p.at_.length { n with id:=p.at_.length }) (o':=o') (fun g hg=>BG (ne hg os (by simp))) (fun _ h=>h)).stored p.at_.length (.bool true);have a2:=a1.setCell_other (p:=Aw pb 4) (by rw[hopb];simp) (Iv ((p.many+1:Nat):Int));rw[<- hl,VU,X8 _ _ (by simp)] at a2;simp only[Ad.fresh,Vx,WX,VU];simpa [hl] using a2
 . exact((h4.keep (w':=set5 W gs p.at_.length { n with id:=p.at_.length }) (o':=o') (fun g hg=>BG (ne hg os (by simp))) (fun _ h=>h)).setCell_other (p:=Aw gt p.at_.length) (by rw[ot];simp) (.bool true)).setCell_other (p:=Aw pb 4) (by rw[hopb];simp) (Iv ((p.many+1:Nat):Int))
 . simp[Ad.fresh,hl]
 . simp only[Ad.fresh,Vx,WX];omega
 . rw[g0];have:=h.pos;simp[h.zero];omega
 . simp[Ad.fresh]
 ·intro i hi
  by_cases e:i=p.at_.length
  . subst e;simp[Ad.nd,Ad.fresh,List.getD]
  . rw[g4 i e];rw[g0] at hi;simp[e] at hi;exact h.id i hi
 . have:=h.many;simp only[Ad.fresh,Vx,WX];omega
 . exact h.nodup
 . intro i hi;have:i∈p.free:=hi;rw[hf] at this;cases this
 ·have e1:(p.fresh n).at_.length=p.at_.length+1:=by simp[Ad.fresh]
  have g3:∀ i,i<p.at_.length->(if (p.fresh n).tk i=true then (1:Int) else 0)=if p.tk i=true then 1 else 0:=by
   intro i hi;have g1:(i == p.at_.length)=false:=by simp;omega
   rw[g0,g1];simp
  rw[e1,Ag,B4 (g:=fun i=>if p.tk i=true then 1 else 0) p.at_.length g3,<- h.cnt,g0];simp[Ad.fresh]
 . exact((F4 (Chg.refl _ _ _) os (.inr (.inl rfl))).setCell (p:=Aw gt p.at_.length) ot (.inr (.inr (.inl rfl))) _).setCell (p:=Aw pb 4) hopb (.inl rfl) _
abbrev XI:=@Nat.mul_le_mul
theorem GF (T e ty:TypeId)(size bytes:Nat)(z:Value)(hT:prog.underlying T=some (.slice e))(he:(prog.info? e).map (fun i=>(i.zero,i.size,i.bytes))=some (some z,size,bytes))(hzs:z.cells.size=size)(hsz:0<size)
 {wr:Wd} {o:Own} {r:Role} {v:Value} {n:Nat} {xs:List Value} (news:Array Value) (hl:news.size=size) (h1:∀ u∈news.toList,u.oneCell'=true) (h:RowR o wr r e size v n xs) (hlt:Ac o wr) (hn:n<1000000000) (hb:bytes<=10000) :
 ∃ g cap w' o',(Builtin.append_ #[T,T] ty #[v,.slice (some (Av wr.heap.size)) 1 1]).run prog (wr.alloc (.cells news e))=.ok (.slice (some (Av g)) (n+1) cap) w' /\
  RowR o' w' r e size (.slice (some (Av g)) (n+1) cap) (n+1) (xs++news.toList)/\Chg (· = r) o o' wr w'/\Ac o' w':=by
 obtain⟨i,hi,hz,g1,g6⟩:=XC he;have g0:Bw wr (wr.alloc (.cells news e)):=Ah _ _;have g4:RowR o (wr.alloc (.cells news e)) r e size v n xs:=h.keep (fun g hg=>g0.block g (hlt g r hg)) (fun _ h=>h);have g2:∀ j u,news.toList[j]?=some u->(wr.alloc (.cells news e)).cell? (((Av wr.heap.size):Addr).add j)=some u:=by
  intro j u hu;have g3:((Av wr.heap.size):Addr).add j=(Aw wr.heap.size j):=by unfold Addr.add;split<;>simp_all
  rw[g3,Vt _ _ _ _ _ _ (Vv wr _)];simpa using hu
 have g5:(n+1)*bytes<=140737488355328:=Vy (XI (show n+1<=1000000000 by omega) hb) (by decide);obtain⟨v',w',o',a0,a1,a2,a3⟩:=g4.append (P:=prog) (hlt.mono g0.size) T ty i z bytes hT hi hz g1 g6 hzs hsz (Av wr.heap.size) 1 1 news.toList (by simpa using hl) g2 h1 (by unfold maxLen;omega) g5;obtain⟨g,cap,rfl,_⟩:=a1.shape (by omega);exact⟨g,cap,w',o',a0,a1,(Chg.of_below g0 _ _).trans a2,a3⟩
theorem E9 (T e:TypeId)(size bytes:Nat)(z:Value)(hT:prog.underlying T=some (.slice e))(he:(prog.info? e).map (fun i=>(i.zero,i.size,i.bytes))=some (some z,size,bytes))(hzs:z.cells.size=size)(hsz:0<size)
 {wr:Wd} {ops:Array Oper} {rest:List Oper} {op:Oper} {a:Act} {Q:Exit->Act->Wd->Prop} {W:Wd} (hgd:op.guard=none) (s x:Operand)
 (hop:op.op=.call { callee:=.builtin .append,args:=#[s,x],argTypes:=#[T,T] })
 {o:Own} {r:Role} {v:Value} {n:Nat} {xs:List Value} (hs:a.eval s=v) {N:Nat} (hx:a.eval x=.slice (some (Av N)) 1 1) {news:Array Value}
 (hW:W=wr.alloc (.cells news e)) (hN:N=wr.heap.size) (hl:news.size=size) (h1:∀ u∈news.toList,u.oneCell'=true) (h:RowR o wr r e size v n xs) (hlt:Ac o wr) (hn:n<1000000000) (hb:bytes<=10000)
 (hK:∀ g cap w' o',RowR o' w' r e size (.slice (some (Av g)) (n+1) cap) (n+1) (xs++news.toList)->Chg (· = r) o o' wr w'->Ac o' w'->wpList prog ops Q rest (a.put op.dst (.slice (some (Av g)) (n+1) cap)) w'):wpList prog ops Q (op::rest) a W:=by
 subst hN;subst hW
 obtain⟨g,cap,w',o',hr,h2,h3,h4⟩:=GF T e op.type size bytes z hT he hzs hsz news hl h1 h hlt hn hb;refine wpList_plain hgd fun K g0=>?_
 unfold Oper.wp execOp;simp only[hop,resolve,invoke,builtin,WB,XQ,VZ,List.map_toArray,WG,List.map_nil,hs,hx,hr];exact g0 _ _ (hK g cap w' o' h2 h3 h4)
structure CS (o:Own)(w:Wd)(p:Ad)(n:RN)(b pb:Nat)(vs vt vf:Value)(nl nt:Nat)(xs:List Value)(bs:List Value)(o1:Own)(wx:Wd):Prop where
 fpb:wx.heap[pb]?=some (.cells #[Iv p.room,vs,vt,vf,Iv p.many] 227 (0,0))
 box:wx.heap[b]?=some (.cells #[Iv n.id,Iv n.v,Iv n.lo,Iv n.hi,Iv n.refs] 254 (0,0))
 slots:RowR o1 wx .slots 254 5 vs nl xs
 taken:RowR o1 wx .taken 4 1 vt nt bs
 free:RowR o1 wx .free 3 1 vf p.free.length (p.free.map nat64)
 chg:Chg (fun r=>r=.pool\/r=.slots\/r=.taken\/r=.free) o o1 w wx
 lt:Ac o1 wx
 ob:o1 b=none
 op:o1 pb=some .pool
theorem CS.grown1 {o:Own}{n:RN}{vs vt vs':Value}{nl nt nl':Nat}{xs bs xs':List Value}{wy:Wd}(h:CS o w p n b pb vs vt vf nl nt xs bs o1 wx)
 (hr:RowR o2 wy .slots 254 5 vs' nl' xs') (hc:Chg (· = .slots) o1 o2 wx wy) (hl:Ac o2 wy):CS o w p n b pb vs' vt vf nl' nt xs' bs o2 (wy.setCell (Aw pb 1) vs'):=by
 have g0:=hc.ext _ _ h.op;have g1:b<wx.heap.size:=(Vr.1 h.box).1;have g2:=hc.alien' g1 h.ob;have npb:b≠pb:=by intro e;have h1:=h.op;rw[<- e,h.ob] at h1;cases h1
 exact⟨A2 ((hc.same h.lt h.op (by simp)).trans h.fpb) _,(Ay npb _).trans ((hc.alien g1 h.ob).trans h.box),hr.setCell_other (by rw[g0];simp) _,(h.taken.chg hc h.lt (by simp)).setCell_other (by rw[g0];simp) _,
  (h.free.chg hc h.lt (by simp)).setCell_other (by rw[g0];simp) _,(h.chg.trans (hc.mono fun r e=>.inr (.inl e))).setCell (p:=Aw pb 1) g0 (.inl rfl) _,hl.mono (by simp[World.setCell]),g2,g0⟩
theorem CS.grown2 {o:Own}{n:RN}{vs vt vt':Value}{nl nt nt':Nat}{xs bs bs':List Value}{wy:Wd}(h:CS o w p n b pb vs vt vf nl nt xs bs o1 wx)
 (hr:RowR o2 wy .taken 4 1 vt' nt' bs') (hc:Chg (· = .taken) o1 o2 wx wy) (hl:Ac o2 wy):CS o w p n b pb vs vt' vf nl nt' xs bs' o2 (wy.setCell (Aw pb 2) vt'):=by
 have g0:=hc.ext _ _ h.op;have g1:b<wx.heap.size:=(Vr.1 h.box).1;have g2:=hc.alien' g1 h.ob;have npb:b≠pb:=by intro e;have h1:=h.op;rw[<- e,h.ob] at h1;cases h1
 exact⟨A2 ((hc.same h.lt h.op (by simp)).trans h.fpb) _,(Ay npb _).trans ((hc.alien g1 h.ob).trans h.box),(h.slots.chg hc h.lt (by simp)).setCell_other (by rw[g0];simp) _,hr.setCell_other (by rw[g0];simp) _,
  (h.free.chg hc h.lt (by simp)).setCell_other (by rw[g0];simp) _,(h.chg.trans (hc.mono fun r e=>.inr (.inr (.inl e)))).setCell (p:=Aw pb 2) g0 (.inl rfl) _,hl.mono (by simp[World.setCell]),g2,g0⟩
abbrev Xw:=@List.flatMap_append
theorem Ow (o:Own)(pb:Nat)(p:Ad)(n:RN)(w:Wd)(h:Ap o w pb p)(hlt:Ac o w)(hf:p.free=[])(hroom1:p.at_.length<=p.room) :
 Cl 264 #[Pt pb,An n] w fun x w'=>x=.returned (.tuple #[Iv p.at_.length,Iv 0])/\∃ o',Ap o' w' pb (p.fresh n)/\Chg (fun r=>r=.pool\/r=.slots\/r=.taken\/r=.free) o o' w w'/\Ac o' w':=by
 have gA:=h.blk;obtain⟨vs,vt,vf,ge,hs,ht,go⟩:=gA;obtain⟨gs,cs,rfl,gC,_⟩:=hs.shape h.pos;obtain⟨gt,ct,rfl,gB,_⟩:=ht.shape (by rw[h.len];exact h.pos);obtain⟨af,cf,rfl,_⟩:=go.slice;rw[h.len,hf] at ge;rw[h.len] at ht;obtain⟨c0,c1,c2,c3,c4,f0⟩:=cells5 ge;have gE:¬ (p.room:Int)<p.at_.length:=by omega
 have lpb:pb<w.heap.size:=Af c0;have gI:=h.top;have gH:=h.room;have HH:=Hd h;have HL:=Hd hlt;have HS:=Hd hs;have HT:=Hd ht;have HF:=Hd go;have gG:=Hd h.own;have gz:=Hd hf;have gr:=Hd h.len;have gF:=Hd ge;obtain⟨in_,gv,gi,gj,gk⟩:=XC F6;obtain⟨ib,gw,gl,gm,gn⟩:=XC GE;have gL:=Hd (⟨gv,gi,gj,gk⟩:_/\_/\_/\_);have gM:=Hd (⟨gw,gl,gm,gn⟩:_/\_/\_/\_);clear hs ht go h hf hlt gC gB ge gv gi gj gk gw gl gm gn;unfold An
 go_enter func264,ntmps264
 go_wp2_with (fail)
 go_quiet (fail)
 have g7:Bw w ((w.alloc (.cells #[Iv n.id,Iv n.v,Iv n.lo,Iv n.hi,Iv n.refs] 254)).drewN nq):=Fi w nq _;have gf:((w.alloc (.cells #[Iv n.id,Iv n.v,Iv n.lo,Iv n.hi,Iv n.refs] 254)).drewN nq).heap[w.heap.size]?=some (.cells #[Iv n.id,Iv n.v,Iv n.lo,Iv n.hi,Iv n.refs] 254 (0,0)):=Vv w _;have gh:((w.alloc (.cells #[Iv n.id,Iv n.v,Iv n.lo,Iv n.hi,Iv n.refs] 254)).drewN nq).heap.size=w.heap.size+1:=by simp
 obtain⟨wq,gu⟩:=Ex ((w.alloc (.cells #[Iv n.id,Iv n.v,Iv n.lo,Iv n.hi,Iv n.refs] 254)).drewN nq);rw[<- gu] at g7 gf gh ⊢;obtain⟨b,hb⟩:=Ex w.heap.size;rw[<- hb] at gf gh ⊢;have hS:CS o w p n b pb (.slice (some (Av gs)) p.at_.length cs) (.slice (some (Av gt)) p.at_.length ct) (.slice af 0 cf) p.at_.length p.at_.length (p.at_.flatMap rnV) (p.taken.map Value.bool) o wq :=
  ⟨(g7.block pb lpb).trans gF.o,gf,HS.o.below HL.o g7,HT.o.below HL.o g7,by have:=HF.o.below HL.o g7;rw[gz.o] at this ⊢;exact this,(Chg.of_below g7 _ _),HL.o.mono g7.size,HL.o.none (by omega),gG.o⟩
 have g0:=Hd hS;have HB:=Hd hb;clear c0 c1 c2 c3 c4 f0 gu hS hb gf g7 gh lpb;obtain⟨c0,c1,c2,c3,c4,f0⟩:=cells5 g0.o.fpb;have lpb:pb<wq.heap.size:=Af c0;go_upto_region 10 with fail
 go_cut [4] (fun s4 wx=>s4=Iv p.at_.length/\∃ g1 k1 o1,CS o w p n b pb (.slice (some (Av g1)) (p.at_.length+1) k1) (.slice (some (Av gt)) p.at_.length ct) (.slice af 0 cf) (p.at_.length+1) p.at_.length (p.at_.flatMap rnV++[Iv 0,Iv 0,Iv 0,Iv 0,Iv 0]) (p.taken.map Value.bool) o1 wx)
 case first =>
  go_wp2_with (at_builtin
               refine E9 225 254 5 40 _ underlying225 F6 rfl (by decide) rfl _ _ rfl rfl rfl rfl (by simp) rfl (by decide) g0.o.slots g0.o.lt (by omega) (by decide) ?_;intro g1 k1 w1 o1 ga g3 g6;obtain⟨q0,q1,q2,q3,q4,fq⟩:=cells5 ((g3.same g0.o.lt g0.o.op (by simp)).trans g0.o.fpb);have gq:=Hd ga;have gd:=Hd g3;have gc:=Hd g6;clear ga g3 g6 c0 c1 c2 c3 c4 f0)
  go_meet;exact⟨rfl,g1,k1,o1,g0.o.grown1 gq.o gd.o gc.o⟩
 case rest =>
  obtain⟨rfl,g1,k1,o1,hS⟩:=hcut;clear c0 c1 c2 c3 c4 f0 lpb g0
  rename Wd=>wr
  have g0:=Hd hS;obtain⟨c0,c1,c2,c3,c4,f0⟩:=cells5 hS.fpb;have lpb:pb<wr.heap.size:=Af c0;clear hS;go_upto_region 11 with fail
  go_cut [4] (fun s4 wx=>s4=Iv p.at_.length/\∃ g1 k1 g2 k2 o1,CS o w p n b pb (.slice (some (Av g1)) (p.at_.length+1) k1) (.slice (some (Av g2)) (p.at_.length+1) k2) (.slice af 0 cf) (p.at_.length+1) (p.at_.length+1) (p.at_.flatMap rnV++[Iv 0,Iv 0,Iv 0,Iv 0,Iv 0]) (p.taken.map Value.bool++[.bool false]) o1 wx)
  case first =>
   go_wp2_with (at_builtin
                refine E9 90 4 1 1 _ underlying90 GE rfl (by decide) rfl _ _ rfl rfl rfl rfl (by simp) rfl (by decide) g0.o.taken g0.o.lt (by omega) (by decide) ?_;intro g2 k2 w2 o2 ga g3 g6;obtain⟨q0,q1,q2,q3,q4,fq⟩:=cells5 ((g3.same g0.o.lt g0.o.op (by simp)).trans g0.o.fpb);have gq:=Hd ga;have gd:=Hd g3;have gc:=Hd g6;clear ga g3 g6 c0 c1 c2 c3 c4 f0)
   go_meet;exact⟨rfl,g1,k1,g2,k2,o2,g0.o.grown2 gq.o gd.o gc.o⟩
  case rest =>
   obtain⟨rfl,g1,k1,g2,k2,o1,hS⟩:=hcut;clear c0 c1 c2 c3 c4 f0 lpb g0
   rename Wd=>w3
   have g0:=Hd hS;obtain⟨c0,c1,c2,c3,c4,f0⟩:=cells5 hS.fpb;obtain⟨b0,b1,b2,b3,b4,fb⟩:=cells5 hS.box;have lpb:pb<w3.heap.size:=Af c0;have lb:b<w3.heap.size:=Af b0;have npb:pb≠b:=by intro e;have h1:=hS.op;rw[e,hS.ob] at h1;cases h1
   clear hS;go_upto_region 13 with fail;obtain⟨W1,g4⟩:=Ex (w3.setCell (Av b) (Iv p.at_.length));rw[<- g4];have gp:W1.heap[b]?=some (.cells #[Iv p.at_.length,Iv n.v,Iv n.lo,Iv n.hi,Iv n.refs] 254 (0,0)):=by rw[g4];exact A2 g0.o.box _
   have g9:=(Ay (p:=Av b) npb (Iv p.at_.length:Value)).trans g0.o.fpb;rw[<- g4] at g9;have g3:Chg (fun r=>r=.pool\/r=.slots\/r=.taken\/r=.free) o o1 w W1:=by
    rw[g4];exact g0.o.chg.setCell_new (p:=Av b) (by rw[HB.o];exact Vu _) _
   have gg:∀ r,o1 ((Av b):Addr).block≠some r:=by intro r e;rw[show o1 ((Av b):Addr).block=o1 b from rfl,g0.o.ob] at e;cases e
   have hs1:RowR o1 W1 .slots 254 5 (.slice (some (Av g1)) (p.at_.length+1) k1) (p.at_.length+1) ((p.at_++[rn0]).flatMap rnV):=by
    rw[g4,Xw];exact g0.o.slots.setCell_other (gg _) _
   have g8:RowR o1 W1 .taken 4 1 (.slice (some (Av g2)) (p.at_.length+1) k2) (p.at_.length+1) ((p.taken++[false]).map Value.bool):=by
    rw[g4,VU];exact g0.o.taken.setCell_other (gg _) _
   have gx:RowR o1 W1 .free 3 1 (.slice af 0 cf) p.free.length (p.free.map nat64):=by rw[g4];exact g0.o.free.setCell_other (gg _) _
   have g6:Ac o1 W1:=by rw[g4];exact g0.o.lt.mono (by simp[World.setCell])
   have g5:=HH.o.toFresh (n:=n) gz.o hroom1 g0.o.op g9 hs1 g8 gx;have ne:∀ {a b r q},o1 a=some r->o1 b=some q->r≠q->a≠b:=fun ha hb hr e=>by subst e;rw[ha] at hb;cases hb;exact hr rfl
   have nps:pb≠g1:=ne g0.o.op hs1.owner (by simp);have npt:pb≠g2:=ne g0.o.op g8.owner (by simp);have nst:g1≠g2:=ne hs1.owner g8.owner (by simp);have nbs:b≠g1:=by intro e;have h1:=hs1.owner;rw[<- e,g0.o.ob] at h1;cases h1
   obtain⟨s0,s1,s2,s3,s4⟩:=Ap.node (p:={ p with at_:=p.at_++[rn0] }) (k:=p.at_.length) (by simpa using hs1) (by simp);have fg1:=hs1.frozen;have t0:=Ap.flag (p:={ p with taken:=p.taken++[false] }) (k:=p.at_.length) (by simpa [gr.o] using g8) (by simp[gr.o]);have fg2:=g8.frozen p.at_.length;clear c0 c1 c2 c3 c4 f0 b0 b1 b2 b3 b4 fb lpb lb ne;obtain⟨c0,c1,c2,c3,c4,f0⟩:=cells5 g9;obtain⟨b0,b1,b2,b3,b4,fb⟩:=cells5 gp
   have gy:Hq (∀ W:Wd,(∀ g,g≠g1->W.heap[g]?=W1.heap[g]?)->W.cell? (Aw pb 1)=some (.slice (some (Av g1)) (p.at_.length+1) k1)/\W.cell? (Aw pb 2)=some (.slice (some (Av g2)) (p.at_.length+1) k2) /\
    W.cell? (Av b)=some (Iv p.at_.length)/\W.cell? (Aw b 1)=some (Iv n.v)/\W.cell? (Aw b 2)=some (Iv n.lo)/\W.cell? (Aw b 3)=some (Iv n.hi)/\W.cell? (Aw b 4)=some (Iv n.refs)):=by
    show ∀ _,_
    intro W hW;have a:=fun g k (hg:g≠g1)=>Wl (w:=W1) (w':=W) (a:=Aw g k) (hW g hg)
    exact⟨(a pb 1 nps).trans c1,(a pb 2 nps).trans c2,(a b 0 nbs).trans b0,(a b 1 nbs).trans b1,(a b 2 nbs).trans b2,(a b 3 nbs).trans b3,(a b 4 nbs).trans b4⟩
   have gD:=Hd g5;have gd:=Hd g3;have gc:=Hd g6;have gJ:(p.many:Int)+1<9223372036854775807:=by have:=HH.o.many;omega
   have gK:(p.at_.length:Int)<(p.at_.length:Int)+1:=by omega
   clear g5 g3 g6 hs1 g8 gx gp g9 gg g4 c0 c1 c2 c3 b0 b1 b2 b3 b4 fb g0
   refine AJ (fun W:Wd=>W.cell? (Aw pb 1)=some (.slice (some (Av g1)) (p.at_.length+1) k1)/\W.cell? (Aw pb 2)=some (.slice (some (Av g2)) (p.at_.length+1) k2) /\
    W.cell? (Av b)=some (Iv p.at_.length)/\W.cell? (Aw b 1)=some (Iv n.v)/\W.cell? (Aw b 2)=some (Iv n.lo)/\W.cell? (Aw b 3)=some (Iv n.hi)/\W.cell? (Aw b 4)=some (Iv n.refs)) true 14
    [(0,false),(1,false),(2,false),(3,false),(4,false),(5,false),(6,false),(7,false),(8,false),(9,false),(10,false),(11,false),(12,true),(13,false),(14,true)] (by kernel_rfl) (by kernel_rfl) (gy.o _ (fun _ _=>rfl)) ?_
   simp only[planned,AH]
   iterate 12
    refine Aq rfl ?_;apply Exists.intro;refine⟨fun w' hw=>?_,?_⟩
    . obtain⟨h1,h2,h3,h4,h5,h6,h7⟩:=hw;go_simp;rfl
    simp only[Ab]
   refine E7 rfl (fun K hK=>?_);unfold Oper.wp;go_simp;refine hK _ _ (gy.o _ (fun g hg=>BG (w:=W1) (n:=⟨p.at_.length,n.v,n.lo,n.hi,n.refs⟩) hg)) ?_
   iterate 1
    refine Aq rfl ?_;apply Exists.intro;refine⟨fun w' hw=>?_,?_⟩
    . obtain⟨h1,h2,h3,h4,h5,h6,h7⟩:=hw;go_simp;rfl
    simp only[Ab]
   refine Di rfl (fun K hK=>?_);unfold Oper.wp;go_simp;refine hK _ _ (Cm ?_);go_wp2_with fail
   go_ret2
   have g5:=gD.o;rw[show ((p.many+1:Nat):Int)=(p.many:Int)+1 by omega] at g5;exact⟨rfl,o1,g5.1.drew,(gd.o.trans g5.2).drew,gc.o.mono (by simp[World.setCell])⟩
theorem Cn (hc:w.cell? (Aw g k)=some u)(hf:w.frozen? (Aw g k)=false)(h1:v.oneCell'=true):(store (Aw g k) v).run P w=.ok () (w.setCell (Aw g k) v):=by
 rw[run_store P w _ v _ h1,hc];simp[hf]
theorem AX {p q:Addr}(h:w.cell? q=some u):∃ u',(w.setCell p v).cell? q=some u':=by
 by_cases e:p=q
 . subst e;exact⟨v,World.cell?_setCell_same' _ _ _ (by rw[h];rfl)⟩
 . exact⟨u,by rw[World.cell?_setCell_other w p q v e];exact h⟩
theorem Ox:(prog.info? 254).map (fun i=>i.size)=some 5:=by kernel_rfl
abbrev WI:=@Option.map_some
theorem Dj (f:∀ j,w.frozen? (Aw g j)=false){u0 u1 u2 u3 u4:Value}(c0:w.cell? (Aw g (k*5))=some u0)(c1:w.cell? (Aw g (k*5+1))=some u1)(c2:w.cell? (Aw g (k*5+2))=some u2)(c3:w.cell? (Aw g (k*5+3))=some u3)(c4:w.cell? (Aw g (k*5+4))=some u4)(a b c d e:Int) :
 (Instr.storeAt 254 (.pointer (some (Aw g (k*5)))) (.agg #[Iv a,Iv b,Iv c,Iv d,Iv e])).run prog w =
  .ok () (((((w.setCell (Aw g (k*5)) (Iv a)).setCell (Aw g (k*5+1)) (Iv b)).setCell (Aw g (k*5+2)) (Iv c)).setCell (Aw g (k*5+3)) (Iv d)).setCell (Aw g (k*5+4)) (Iv e)):=by
 have s:=Ox;have g0:∀ j,((Aw g (k*5)):Addr).add j=(Aw g (k*5+j)):=fun j=>by unfold Addr.add;split<;>simp_all
 have g1:(Instr.sureAddr (Value.pointer (some (Aw g (k*5))))).run prog w=.ok (Aw g (k*5)) w:=rfl;cases hi:prog.info? 254 with
 | none=>rw[hi] at s;cases s
 | some i =>
   rw[hi] at s;simp only[WI,Wg] at s;have fz:∀ (w':Wd) p v j,(w'.setCell p v).frozen? (Aw g j)=w'.frozen? (Aw g j):=fun w' p v j=>Xn _ _ _ _
   obtain⟨v1,e1⟩:=AX (p:=(Aw g (k*5))) (v:=Iv a) c1;obtain⟨v2,e2⟩:=AX (p:=(Aw g (k*5))) (v:=Iv a) c2;obtain⟨v2,e2⟩:=AX (p:=(Aw g (k*5+1))) (v:=Iv b) e2;obtain⟨v3,e3⟩:=AX (p:=(Aw g (k*5))) (v:=Iv a) c3;obtain⟨v3,e3⟩:=AX (p:=(Aw g (k*5+1))) (v:=Iv b) e3;obtain⟨v3,e3⟩:=AX (p:=(Aw g (k*5+2))) (v:=Iv c) e3;obtain⟨v4,e4⟩:=AX (p:=(Aw g (k*5))) (v:=Iv a) c4;obtain⟨v4,e4⟩:=AX (p:=(Aw g (k*5+1))) (v:=Iv b) e4;obtain⟨v4,e4⟩:=AX (p:=(Aw g (k*5+2))) (v:=Iv c) e4;obtain⟨v4,e4⟩:=AX (p:=(Aw g (k*5+3))) (v:=Iv d) e4;have s0:=Cn (P:=prog) (v:=Iv a) c0 (f _) rfl;have s1:=Cn (P:=prog) (v:=Iv b) e1 (by rw[fz];exact f _) rfl;have s2:=Cn (P:=prog) (v:=Iv c) e2 (by rw[fz,fz];exact f _) rfl;have s3:=Cn (P:=prog) (v:=Iv d) e3 (by rw[fz,fz,fz];exact f _) rfl;have s4:=Cn (P:=prog) (v:=Iv e) e4 (by rw[fz,fz,fz,fz];exact f _) rfl;simp only[Instr.storeAt,WB,g1,VZ];simp[storeVar,sizeOf,typeInfo,hi,s,Value.cells,storeCells,g0,s0,s1,s2,s3,s4]
theorem DO (hs:(P.info? T).map (fun i=>i.size)=some 1)(hc:w.cell? (Aw g k)=some u)(hf:w.frozen? (Aw g k)=false)(h1:v.oneCell'=true)(hv:v.cells=#[v]) :
 (Instr.storeAt T (.pointer (some (Aw g k))) v).run P w=.ok () (w.setCell (Aw g k) v):=by
 have g1:(Instr.sureAddr (Value.pointer (some (Aw g k)))).run P w=.ok (Aw g k) w:=rfl;have g0:((Aw g k):Addr).add 0=(Aw g k):=by simp[Addr.add]
 cases hi:P.info? T with
 | none=>rw[hi] at hs;cases hs
 | some i =>
   rw[hi] at hs;simp only[WI,Wg] at hs;have s0:=Cn (P:=P) hc hf h1;simp only[Instr.storeAt,WB,g1,VZ];simp[storeVar,sizeOf,typeInfo,hi,hs,hv,storeCells,g0,s0]
theorem Oy:(prog.info? 4).map (fun i=>i.size)=some 1:=by kernel_rfl
theorem GG {o:Oper}{s x:Operand}(ho:o.op=.store t s x)(hr:(Instr.storeAt t (a.eval s) (a.eval x)).run P w=.ok () w'):(execOp a.eval o).run P w=.ok .skip w':=by
 unfold execOp;simp[ho,hr]
theorem GH {o:Oper}{r:List (Option Oper×Bool)}{s x:Operand}(hg:o.guard=none)(ho:o.op=.store t s x)
 (hr:(Instr.storeAt t (a.eval s) (a.eval x)).run P w=.ok () w') (hS:S w') (h:A0 P ops Q S last r (a.put o.dst undef) w'):A0 P ops Q S last ((some o,true)::r) a w:=by
 refine E7 hg fun K hK=>?_
 unfold Oper.wp;rw[GG ho hr];exact hK _ _ hS h
theorem EA {o:Oper}{s x:Operand}(hg:o.guard=none)(ho:o.op=.store t s x)
 (hr:(Instr.storeAt t (a.eval s) (a.eval x)).run P w=.ok () w') (h:Q .normal (a.put o.dst undef) w'):A0 P ops (NP Q) S true [(some o,true)] a w:=by
 refine Di hg fun K hK=>?_
 unfold Oper.wp;rw[GG ho hr];exact hK _ _ (Cm h)
def Ad.give (p:Ad)(id:Nat):Ad:={ p with at_:=p.at_.set id rn0,taken:=p.taken.set id false,free:=p.free++[id],many:=p.many-1 }
theorem Ad.give_get (h2:id<p.taken.length)(h1:id<p.at_.length)(i:Nat):(p.give id).get i=if i=id then none else p.get i:=by
 unfold Ad.get;have e1:(p.give id).tk i=if i=id then false else p.tk i:=E8 h2 i
 have e2:(p.give id).nd i=if i=id then rn0 else p.nd i:=CR h1 i
 rw[e1,e2]
 by_cases e:i=id<;>simp[e]
theorem Ka {f:Nat->Int}(h:∀ i,i<k->0<=f i)(hj:j<k)(hp:1<=f j):1<=Ag k f:=Int.le_trans hp (Ft k h hj)
theorem Ap.many_pos {o:Own}(h:Ap o w pb p)(hi:p.tk id=true):0<p.many:=by
 have:=h.cnt;have h2:1<=Ag p.at_.length (fun i=>if p.tk i=true then (1:Int) else 0):=Ka (fun i _=>by split<;>omega) (h.tk_lt hi).2 (by simp[hi]);omega
theorem Ap.toGive {o:Own}(h:Ap o w pb p)(hi:p.tk id=true){vs vt:Value}(hop:o1 pb=some .pool)
 (hpb:W.heap[pb]?=some (.cells #[Iv p.room,vs,vt,vf,Iv ((p.many-1:Nat):Int)] 227 (0,0)))
 (h2:RowR o1 W .slots 254 5 vs p.at_.length ((p.at_.set id rn0).flatMap rnV)) (h3:RowR o1 W .taken 4 1 vt p.at_.length ((p.taken.set id false).map Value.bool))
 (h4:RowR o1 W .free 3 1 vf (p.free.length+1) ((p.free++[id]).map nat64)):Ap o1 W pb (p.give id):=by
 obtain⟨i0,i1⟩:=h.tk_lt hi;have i2:id<p.taken.length:=by rw[h.len];exact i1
 have tk:∀ i,(p.give id).tk i=if i=id then false else p.tk i:=fun i=>E8 i2 i
 have nd:∀ i,(p.give id).nd i=if i=id then rn0 else p.nd i:=fun i=>CR i1 i
 have g1:=h.many_pos hi;have hm:=h.many;refine⟨hop,⟨vs,vt,vf,hpb,?_,?_,?_⟩,?_,h.room,?_,?_,?_,?_,?_,?_,?_,?_⟩
 . simpa [Ad.give] using h2
 . simpa [Ad.give,h.len] using h3
 . simpa [Ad.give] using h4
 . simp[Ad.give,h.len]
 . have:=h.top;simpa [Ad.give] using this
 . rw[tk,Vs (by omega)];exact h.zero
 . have:=h.pos;simpa [Ad.give] using this
 ·intro i g0;rw[tk] at g0;rw[nd]
  by_cases e:i=id
  . rw[Vw e] at g0;cases g0
  . rw[Vs e] at g0 ⊢;exact h.id i g0
 . simp only[Ad.give,Vx,WX,VQ];omega
 ·refine Wh.2 ⟨h.nodup,by simp,?_⟩;intro x hx y hy e;simp at hy;subst hy;subst e
  have:=(h.free _ hx).2.2;rw[hi] at this;cases this
 ·intro i g0;rw[tk];simp only[Ad.give,VF,VB,VQ] at g0 ⊢;rcases g0 with g0|rfl
  ·have:=h.free i g0;refine⟨this.1,this.2.1,?_⟩;split
   . rfl
   . exact this.2.2
  . exact⟨i0,i1,by simp⟩
 ·have hc:=h.cnt;have:Ag (p.give id).at_.length (fun i=>if (p.give id).tk i=true then 1 else 0)=Ag p.at_.length (fun i=>if p.tk i=true then 1 else 0)+((if (p.give id).tk id=true then 1 else 0)-(if p.tk id=true then 1 else 0)):=by
   have hl:(p.give id).at_.length=p.at_.length:=by simp[Ad.give]
   rw[hl];refine CQ (fun i hi=>?_) _ i1;rw[tk,Vs hi]
  rw[this,tk,Vw rfl,hi,<- hc];simp[Ad.give];omega
theorem Oz (o:Own)(pb:Nat)(p:Ad)(id:Nat)(w:Wd)(h:Ap o w pb p)(hlt:Ac o w)(hi:p.tk id=true) :
 Cl 256 #[Pt pb,Iv id] w fun x w'=>x=.returned (Iv 0)/\∃ o',Ap o' w' pb (p.give id)/\Chg (fun r=>r=.pool\/r=.slots\/r=.taken\/r=.free) o o' w w'/\Ac o' w':=by
 obtain⟨vs,vt,vf,g8,hs,ht,gg⟩:=h.blk;obtain⟨gs,cs,rfl,g2,_⟩:=hs.shape h.pos;obtain⟨gt,ct,rfl,g0,_⟩:=ht.shape (by rw[h.len];exact h.pos);obtain⟨af,cf,rfl,_⟩:=gg.slice;rw[h.len] at g8 ht;obtain⟨c0,c1,c2,c3,c4,f0⟩:=cells5 g8;obtain⟨i0,i1⟩:=h.tk_lt hi;have i1':(id:Int)<p.at_.length:=by omega
 have gQ:=h.top;have gP:=h.room;obtain⟨n0,n1,n2,n3,n4⟩:=Ap.node hs (k:=id) i1;have gc:=ht;rw[<- h.len] at gc;have t0:=Ap.flag gc (k:=id) (by rw[h.len];exact i1);have fs0:=hs.frozen;have ft0:=ht.frozen id;have ne:∀ {a b r q},o a=some r->o b=some q->r≠q->a≠b:=fun ha hb hr e=>by subst e;rw[ha] at hb;cases hb;exact hr rfl
 have nps:pb≠gs:=ne h.own g2 (by simp);have npt:pb≠gt:=ne h.own g0 (by simp);have nst:gs≠gt:=ne g2 g0 (by simp);have gT:=h.many_pos hi;have gA:=h.many;obtain⟨W2,g3⟩:=Ex ((set5 w.drew gs id rn0).setCell (Aw gt id) (.bool false));have gd:W2.heap[pb]?=some (.cells #[Iv p.room,.slice (some (Av gs)) p.at_.length cs,.slice (some (Av gt)) p.at_.length ct,.slice af p.free.length cf,Iv p.many] 227 (0,0)):=by
  rw[g3,Ay (p:=Aw gt id) npt,BG nps];exact g8
 have gn:RowR o W2 .slots 254 5 (.slice (some (Av gs)) p.at_.length cs) p.at_.length ((p.at_.set id rn0).flatMap rnV):=by
  have:=(Fz hs.drew i1 rn0).setCell_other (p:=Aw gt id) (by rw[g0];simp) (.bool false);rw[VQ] at this;rw[g3];exact this
 have gl:RowR o W2 .taken 4 1 (.slice (some (Av gt)) p.at_.length ct) p.at_.length ((p.taken.set id false).map Value.bool):=by
  have:=(ht.drew.keep (w':=set5 w.drew gs id rn0) (o':=o) (fun g hg=>BG (ne hg g2 (by simp))) (fun _ h=>h)).stored id (.bool false);rw[g3,X9];exact this
 have gv:RowR o W2 .free 3 1 (.slice af p.free.length cf) p.free.length (p.free.map nat64):=by
  rw[g3];exact((gg.drew.keep (w':=set5 w.drew gs id rn0) (o':=o) (fun g hg=>BG (ne hg g2 (by simp))) (fun _ h=>h)).setCell_other (p:=Aw gt id) (by rw[g0];simp) (.bool false))
 have gq:Ac o W2:=by rw[g3];exact hlt.mono (by simp[set5,World.setCell])
 have gx:Chg (fun r=>r=.pool\/r=.slots\/r=.taken\/r=.free) o o w W2:=by
  rw[g3];exact((F4 (Chg.refl _ _ _).drew g2 (.inr (.inl rfl))).setCell (p:=Aw gt id) g0 (.inr (.inr (.inl rfl))) _)
 have HH:=Hd h;have HI:=Hd hi;have gC:=Hd g3;have gj:=Hd gd;have gG:=Hd gn;have gE:=Hd gl;have gM:=Hd gv;have g9:=Hd gq;have gO:=Hd gx;have gy:=Hd h.own;clear hs ht gc gg h hlt hi g2 g0 g8 ne g3 gd gn gl gv gq gx gA;have gi:Hq (∀ W:Wd,(∀ g,g≠gs->W.heap[g]?=w.heap[g]?)->W.cell? (Aw pb 1)=some (.slice (some (Av gs)) p.at_.length cs)/\W.cell? (Aw pb 2)=some (.slice (some (Av gt)) p.at_.length ct)):=by
  show ∀ _,_
  intro W hW;have a:=fun g k (hg:g≠gs)=>Wl (w:=w) (w':=W) (a:=Aw g k) (hW g hg)
  exact⟨(a pb 1 nps).trans c1,(a pb 2 nps).trans c2⟩
 go_enter func256,ntmps256
 go_wp2_with (fail);refine(Fy o pb p id _ HH.o).mono ?_;rintro x w' ⟨rfl,rfl⟩;rw[HI.o];go_upto_region 3 with fail;refine AJ (fun W:Wd=>W.cell? (Aw pb 1)=some (.slice (some (Av gs)) p.at_.length cs)/\W.cell? (Aw pb 2)=some (.slice (some (Av gt)) p.at_.length ct)) true 14
  [(0,false),(1,false),(2,false),(3,false),(4,false),(5,false),(6,false),(7,false),(8,false),(9,false),(10,false),(11,false),(12,true),(13,false),(14,true)] (by kernel_rfl) (by kernel_rfl) (gi.o _ (fun _ _=>rfl)) ?_
 simp only[planned,AH]
 iterate 12
  refine Aq rfl ?_;apply Exists.intro;refine⟨fun w' hw=>?_,?_⟩
  . obtain⟨h1,h2⟩:=hw;go_simp;rfl
  simp only[Ab]
 refine GH rfl rfl (Dj (w:=w.drew) fs0 n0 n1 n2 n3 n4 0 0 0 0 0) (gi.o _ (fun g hg=>BG (w:=w.drew) (n:=rn0) (k:=id) hg)) ?_;simp only[Ab]
 iterate 1
  refine Aq rfl ?_;apply Exists.intro;refine⟨fun w' hw=>?_,?_⟩
  . obtain⟨h1,h2⟩:=hw;go_simp;rfl
  simp only[Ab]
 refine EA (w':=(set5 w.drew gs id rn0).setCell (Aw gt id) (.bool false)) rfl rfl (DO Oy ((Wl (w:=w.drew) (w':=set5 w.drew gs id rn0) (a:=Aw gt id) (BG (Wn nst))).trans t0) ((World.frozen?_of_block (w:=w.drew) (w':=set5 w.drew gs id rn0) (a:=Aw gt id) (BG (Wn nst))).trans ft0) rfl rfl) ?_;rw[<- gC.o];simp only[Ab];clear c0 c1 c2 c3 c4 f0 n0 n1 n2 n3 n4 t0 fs0 ft0 gi;obtain⟨c0,c1,c2,c3,c4,f0⟩:=cells5 gj.o;have lpb:pb<W2.heap.size:=Af c0;have gB:p.free.length<1000000000:=by have:=HH.o.many;omega
 go_upto_region 4 with fail
 go_cut [4] (fun s4 wx=>s4=Iv 0/\∃ gf kf o1,wx.heap[pb]?=some (.cells #[Iv p.room,.slice (some (Av gs)) p.at_.length cs,.slice (some (Av gt)) p.at_.length ct,.slice (some (Av gf)) (p.free.length+1) kf,Iv p.many] 227 (0,0)) /\
  RowR o1 wx .slots 254 5 (.slice (some (Av gs)) p.at_.length cs) p.at_.length ((p.at_.set id rn0).flatMap rnV)/\RowR o1 wx .taken 4 1 (.slice (some (Av gt)) p.at_.length ct) p.at_.length ((p.taken.set id false).map Value.bool) /\
  RowR o1 wx .free 3 1 (.slice (some (Av gf)) (p.free.length+1) kf) (p.free.length+1) ((p.free++[id]).map nat64)/\o1 pb=some .pool/\Chg (fun r=>r=.pool\/r=.slots\/r=.taken\/r=.free) o o1 w wx/\Ac o1 wx)
 case first =>
  go_wp2_with (at_builtin
               refine E9 22 3 1 8 _ underlying22 DK rfl (by decide) rfl _ _ rfl rfl rfl rfl (by simp) rfl (fun u hu=>by simp at hu;subst hu;rfl) gM.o g9.o gB (by decide) ?_;intro g1 k1 w1 o1 go gh gr;have g7:=(gh.same g9.o gy.o (by simp)).trans gj.o;obtain⟨q0,q1,q2,q3,q4,fq⟩:=cells5 g7;have gz:=Hd g7;have gH:=Hd go;have ga:=Hd gh;have gK:=Hd gr;clear go gh gr g7 c0 c1 c2 c3 c4 f0)
  go_meet;have g4:=ga.o.ext _ _ gy.o;refine⟨rfl,g1,k1,o1,A2 gz.o _,(gG.o.chg ga.o g9.o (by simp)).setCell_other (by rw[g4];simp) _,(gE.o.chg ga.o g9.o (by simp)).setCell_other (by rw[g4];simp) _,?_,g4,(gO.o.trans (ga.o.mono fun r e=>.inr (.inr (.inr e)))).setCell (p:=Aw pb 3) g4 (.inl rfl) _,gK.o.mono (by simp[World.setCell])⟩;rw[VU];exact gH.o.setCell_other (by rw[g4];simp) _
 case rest =>
  obtain⟨rfl,gf,kf,o1,g6,gm,gk,gu,ge,gw,gp⟩:=hcut;clear c0 c1 c2 c3 c4 f0 lpb
  rename Wd=>w3
  obtain⟨c0,c1,c2,c3,c4,f0⟩:=cells5 g6;have gS:(p.many:Int)<9223372036854775807:=by have:=HH.o.many;omega
  have gR:(1:Int)<=p.many:=by omega
  have gI:=Hd g6;have gF:=Hd gm;have gD:=Hd gk;have gL:=Hd gu;have g5:=Hd ge;have gN:=Hd gw;have gJ:=Hd gp;clear g6 gm gk gu ge gw gp;go_wp2_with fail;go_ret;refine⟨rfl,o1,HH.o.toGive HI.o g5.o ?_ (gF.o.setCell_other (by rw[g5.o];simp) _) (gD.o.setCell_other (by rw[g5.o];simp) _) (gL.o.setCell_other (by rw[g5.o];simp) _),gN.o.setCell (p:=Aw pb 4) g5.o (.inl rfl) _,gJ.o.mono (by simp[World.setCell])⟩;rw[show ((p.many-1:Nat):Int)=(p.many:Int)-1 by omega];exact A2 gI.o _
def InU (x:Int):Prop:=0<=x/\x<18446744073709551616
theorem Kb (x:Int):InU (IntKind.u64.wrap x):=by
 rw[IntKind.wrap_u64];unfold InU;omega
theorem GI (op:BinOp)(x y:Int):InU (bits op .u64 x y):=by
 unfold bits;exact Kb _
def keyV (op:Int)(a b c:Nat):Value:=.agg #[Iv op,Iv a,Iv b,Iv c]
theorem Kc (mb ge cap:Nat)(op:Int)(a b c:Nat)(w:Wd)(hc:w.cell? (Aw mb 1)=some (.slice (some (Av ge)) 4096 cap)) :
 Cl 250 #[Pt mb,keyV op a b c] w fun x w'=>∃ i,i<4096/\x=.returned (.pointer (some (Aw ge (i*6))))/\Bw w w':=by
 have lmb:mb<w.heap.size:=Af hc;have i0:∀ w,(Instr.index 281 (.agg #[Iv a,Iv b,Iv c]) (Iv 0)).run prog w=.ok (Iv a) w:=fun _=>by kernel_rfl
 have i1:∀ w,(Instr.index 281 (.agg #[Iv a,Iv b,Iv c]) (Iv 1)).run prog w=.ok (Iv b) w:=fun _=>by kernel_rfl
 have i2:∀ w,(Instr.index 281 (.agg #[Iv a,Iv b,Iv c]) (Iv 2)).run prog w=.ok (Iv c) w:=fun _=>by kernel_rfl
 unfold keyV
 go_enter func250,ntmps250
 go_wp2_with fail
 go_loop [5,13] (fun n i=>∃ (k:Nat) (X:Int),k<=3/\InU X/\n=.int .u64 X/\i=Iv k) (fun _ i=>3-(intOf i).toNat)
 case atStart=>exact⟨0,_,by omega,Kb _,rfl,rfl⟩
 case round =>
  obtain⟨k,X,hk,hX,rfl,rfl⟩:=hrel;have HX:=Hd hX;clear hX
  by_cases g1:k<3
  ·have g0:k=0\/k=1\/k=2:=by omega
   rcases g0 with rfl|rfl|rfl
   . go_wp2_with fail;refine⟨⟨1,_,by omega,GI _ _ _,rfl,rfl⟩,by simp[intOf]⟩
   . go_wp2_with fail;refine⟨⟨2,_,by omega,GI _ _ _,rfl,rfl⟩,by simp[intOf]⟩
   . go_wp2_with fail;refine⟨⟨3,_,by omega,GI _ _ _,rfl,rfl⟩,by simp[intOf]⟩
  ·obtain rfl:k=3:=by omega
   obtain⟨i,hi,he⟩:∃ i:Nat,i<4096/\X.tmod 4096=(i:Int):=by
    obtain⟨h0,_⟩:=HX.o;rw[X6 h0];exact⟨(X%4096).toNat,by omega,by omega⟩
   have g2:(i:Int)<4096:=by omega
   go_wp2_with fail
   go_quiet (fail)
   go_wp2_with fail;go_ret;exact⟨i,hi,rfl,Fi w _ _⟩
set_option linter.unusedSectionVars false
section
variable {κ:Type}[DecidableEq κ]
def AE (k:κ):List (κ×Value)->Nat->Option (Nat×Value)
 | [],_=>none
 | p::l,i=>if p.1=k then some (i,p.2) else AE k l (i+1)
def getL (l:List (κ×Value))(k:κ):Option Value:=(AE k l 0).map (·.2)
structure CT (P:Program)(K:TypeId)(enc:κ->Value):Prop where
 check:∀ (w:Wd) (em:Bool) (k:κ),(Instr.checkKey em 10000 K (enc k)).run P w=.ok () w
 find:∀ (w:Wd) (k:κ) (l:List (κ×Value)) (es:List MapEntry),es.map (fun e=>(e.key,e.val))=l.map (fun p=>(enc p.1,p.2)) ->
  (Instr.findKey K (enc k) es).run P w=.ok (AE k l 0) w
 stays:∀ (w:Wd) (k:κ),(Instr.keyThatStays (enc k) (enc k)).run P w=.ok (enc k) w
structure A3 (w:Wd)(b:Nat)(enc:κ->Value)(l:List (κ×Value)):Prop where
 ex:∃ es clock,w.heap[b]?=some (.map es clock)/\es.toList.map (fun e=>(e.key,e.val))=l.map (fun p=>(enc p.1,p.2)) /\
  (∀ e∈es.toList,e.born<clock)/\(es.toList.map (·.born)).Nodup
 nodup:(l.map Prod.fst).Nodup
theorem A3.lt {enc:κ->Value}{l:List (κ×Value)}(h:A3 w b enc l):b<w.heap.size:=by
 obtain⟨es,c,hb,_⟩:=h.ex;exact(Vr.1 hb).1
theorem A3.keep {row:Option Nat}{enc:κ->Value}{l:List (κ×Value)}(h:A3 w b enc l)(hk:CD row w w')(hne:some b≠row):A3 w' b enc l:=by
 obtain⟨es,c,hb,rest⟩:=h.ex;exact⟨⟨es,c,by rw[hk b h.lt hne];exact hb,rest⟩,h.nodup⟩
theorem O0 (h:Bw w w')(row:Option Nat):CD row w w':=fun k hk _=>h.block k hk
theorem A3.below {enc:κ->Value}{l:List (κ×Value)}(h:A3 w b enc l)(hb:Bw w w'):A3 w' b enc l :=
 h.keep (O0 hb none) (by simp)
theorem F7 (w:Wd)(enc:κ->Value):A3 (w.alloc (.map #[] 0)) w.heap.size enc [] :=
 ⟨⟨#[],0,Vv w _,by simp,by simp,by simp⟩,by simp⟩
theorem DP {es:Array MapEntry}(h:w.heap[b]?=some (.map es c)):(getObj b).run P w=.ok (.map es c) w:=by
 simp[getObj,Sem.run,h]
abbrev Xg:=@Prod.mk.injEq
theorem CU {k:κ}{l:List (κ×Value)}:∀ {i:Nat},AE k l i=some (j,v)->∃ n,j=i+n/\l[n]?=some (k,v):=by
 induction l with
 | nil=>intro i h;cases h
 | cons p l ih =>
   intro i h;unfold AE at h;split at h
   ·rename_i he
    simp only[Wg,Xg] at h;obtain⟨rfl,rfl⟩:=h;exact⟨0,rfl,by simp[<- he]⟩
   . obtain⟨n,h1,h2⟩:=ih h;exact⟨n+1,by omega,by simpa using h2⟩
theorem F8 {k:κ}{l:List (κ×Value)}:∀ {i:Nat},AE k l i=none->∀ p∈l,p.1≠k:=by
 induction l with
 | nil=>intro i _ p hp;cases hp
 | cons q l ih =>
   intro i h p hp;unfold AE at h;split at h
   . cases h
   ·rename_i he
    rcases Wj.1 hp with rfl|hp
    . exact he
    . exact ih h p hp
theorem A3.lookup {w:Wd}{b:Nat}{K T E:TypeId}{enc:κ->Value}{l:List (κ×Value)}(h:A3 w b enc l)(L:CT P K enc)(hT:P.underlying T=some (.map K E)){z:Value}
 (hz:∀ w,(zeroValue E).run P w=.ok z w) (k:κ) (ok:Bool) :
 (Instr.lookup T (.map (some b)) (enc k) ok).run P w=.ok (if ok then .tuple #[(getL l k).getD z,.bool (getL l k).isSome] else (getL l k).getD z) w:=by
 obtain⟨es,c,hb,hm,_⟩:=h.ex;simp only[Instr.lookup,WB,We hT,VZ,DP hb,XQ,L.check,L.find w k l es.toList hm];unfold getL;cases hf:AE k l 0 with
 | none=>simp[hz,Result.andThen]
 | some p=>simp
def putL (k:κ)(v:Value)(l:List (κ×Value)):List (κ×Value) :=
 match AE k l 0 with
 | some (j,_)=>l.set j (k,v)
 | none=>l++[(k,v)]
def delL (k:κ)(l:List (κ×Value)):List (κ×Value) :=
 match AE k l 0 with
 | some (j,_)=>l.eraseIdx j
 | none=>l
theorem D5 {l:List (κ×Value)}(hn:(l.map Prod.fst).Nodup){k:κ}(h:(k,v)∈l):getL l k=some v:=by
 unfold getL;cases hf:AE k l 0 with
 | none=>exact(F8 hf _ h rfl).elim
 | some p =>
   obtain⟨j,u⟩:=p;obtain⟨n,_,h2⟩:=CU hf;obtain⟨m,hm,he⟩:=Xb.1 h;have g0:n<l.length:=by
    rcases VE n l.length with h'|h'
    . exact h'
    . rw[VN h'] at h2;cases h2
   rw[VA g0] at h2;have h3:l[n]=(k,u):=by simpa using h2
   have h4:n=m:=by
    apply(List.getElem_inj (h₀:=by simpa using g0) (h₁:=by simpa using hm) hn).1;simp[h3,he]
   subst h4;rw[h3] at he;simp only[Xg,true_and] at he;simp[he]
theorem F9 {l:List (κ×Value)}{k:κ}(h:getL l k=some v):(k,v)∈l:=by
 unfold getL at h;cases hf:AE k l 0 with
 | none=>rw[hf] at h;cases h
 | some p =>
   obtain⟨j,u⟩:=p;obtain⟨n,_,h2⟩:=CU hf;rw[hf] at h;simp only[WI,Wg] at h;subst h;exact List.mem_of_getElem? h2
theorem CV {l:List (κ×Value)}{k:κ}:getL l k=none↔∀ p∈l,p.1≠k:=by
 constructor
 ·intro h;unfold getL at h;cases hf:AE k l 0 with
  | none=>exact F8 hf
  | some p=>rw[hf] at h;cases h
 ·intro h;cases hg:getL l k with
  | none=>rfl
  | some v=>exact(h _ (F9 hg) rfl).elim
theorem Kd {l:List (κ×Value)}(hn:(l.map Prod.fst).Nodup){k:κ}{o:Option Value}(h1:∀ v,o=some v->(k,v)∈l)(h2:o=none->∀ p∈l,p.1≠k):getL l k=o:=by
 cases o with
 | none=>exact CV.2 (h2 rfl)
 | some v=>exact D5 hn (h1 v rfl)
theorem O3 {l:List (κ×Value)}{k:κ}(h:l[n]?=some (k,u)):(l.set n (k,v)).map Prod.fst=l.map Prod.fst:=by
 have hn:n<l.length:=by
  rcases VE n l.length with h'|h'
  . exact h'
  . rw[VN h'] at h;cases h
 apply Xh (by simp);intro i h1 h2;simp only[X3,List.getElem_set];split
 ·rename_i e;subst e
  rw[VA hn] at h;have:l[n]=(k,u):=by simpa using h
  simp[this]
 . rfl
theorem GJ {l:List (κ×Value)}(hn:(l.map Prod.fst).Nodup)(k:κ)(v:Value):((putL k v l).map Prod.fst).Nodup:=by
 unfold putL;cases hf:AE k l 0 with
 | none =>
   simp only[VU,WG,List.map_nil];refine Wh.2 ⟨hn,by simp,?_⟩;intro a ha b hb;obtain⟨p,hp,rfl⟩:=VD.1 ha;simp at hb;subst hb
   exact F8 hf p hp
 | some p =>
   obtain⟨j,u⟩:=p;obtain⟨n,h1,h2⟩:=CU hf;simp only[VW] at h1;subst h1
   rw[O3 h2];exact hn
theorem O4 {l:List (κ×Value)}(hn:(l.map Prod.fst).Nodup)(k k':κ)(v:Value):getL (putL k v l) k'=if k'=k then some v else getL l k':=by
 refine Kd (GJ hn k v) ?_ ?_
 ·intro u hu;unfold putL;cases hf:AE k l 0 with
  | none =>
    dsimp only;split at hu
    . rename_i e;subst e;cases hu;simp
    . exact VF.2 (.inl (F9 hu))
  | some p =>
    obtain⟨j,x⟩:=p;obtain⟨n,h1,h2⟩:=CU hf;simp only[VW] at h1;subst h1
    dsimp only;have hj:j<l.length:=by
     rcases VE j l.length with h'|h'
     . exact h'
     . rw[VN h'] at h2;cases h2
    split at hu
    ·rename_i e;subst e;cases hu
     exact Xb.2 ⟨j,by simpa using hj,by simp⟩
    ·rename_i e
     obtain⟨m,hm,he⟩:=Xb.1 (F9 hu);refine Xb.2 ⟨m,by simpa using hm,?_⟩;rw[List.getElem_set_ne]
     . exact he
     ·rintro rfl;rw[VA hj] at h2;have h3:l[j]=(k,x):=by simpa using h2
      rw[h3] at he;simp only[Xg] at he;exact e he.1.symm
 ·intro ho p hp e;split at ho
  . cases ho
  ·rename_i g1
   have g0:=CV.1 ho;unfold putL at hp;cases hf:AE k l 0 with
   | none =>
     rw[hf] at hp;rcases VF.1 hp with hp|hp
     . exact g0 p hp e
     . simp at hp;subst hp;exact g1 e.symm
   | some q =>
     obtain⟨j,x⟩:=q;rw[hf] at hp;rcases List.mem_or_eq_of_mem_set hp with hp|rfl
     . exact g0 p hp e
     . exact g1 e.symm
abbrev Wo:=@congrArg
abbrev XR:=@Option.getD_some
theorem A3.update {K E:TypeId}{enc:κ->Value}{l:List (κ×Value)}(h:A3 w b enc l)(L:CT P K enc)(hT:P.underlying T=some (.map K E))(k:κ)(v:Value) :
 ∃ w',(Instr.mapUpdate T (.map (some b)) (enc k) v).run P w=.ok () w'/\A3 w' b enc (putL k v l)/\w.grownBy w' (some b):=by
 obtain⟨es,c,hb,hm,g0,g4⟩:=h.ex;have g5:=h.lt;have ge:es.toList.length=l.length:=by have:=Wo List.length hm;simpa using this
 have g2:∀ o:Obj,(setObj b o).run P w=.ok () { w with heap:=w.heap.setIfInBounds b o }:=by
  intro o;simp[setObj,Sem.run,hb]
 have g1:∀ o:Obj,w.grownBy { w with heap:=w.heap.setIfInBounds b o } (some b):=by
  intro o;refine⟨rfl,rfl,rfl,by simp,fun i hi ga=>?_⟩;have:b≠i:=by rintro rfl;exact ga rfl
  simp[this]
 cases hf:AE k l 0 with
 | none =>
   refine⟨{ w with heap:=w.heap.setIfInBounds b (.map (es.push { key:=enc k,val:=v,born:=c }) (c+1)) },?_,?_,g1 _⟩
   . simp only[Instr.mapUpdate,WB,We hT,VZ,DP hb,L.check,L.find w k l es.toList hm,hf,g2]
   ·refine⟨⟨es.push { key:=enc k,val:=v,born:=c },c+1,by simp[g5],?_,?_,?_⟩,?_⟩
    . unfold putL;rw[hf];simp[hm]
    ·intro e he;rw[Array.toList_push,VF] at he;rcases he with he|he
     . have:=g0 e he;omega
     . simp at he;subst he;simp
    ·rw[Array.toList_push,VU];refine Wh.2 ⟨g4,by simp,?_⟩;intro a ha b' g7;obtain⟨e,he,rfl⟩:=VD.1 ha;simp at g7;subst g7
     have:=g0 e he;omega
    . exact GJ h.nodup k v
 | some p =>
   obtain⟨j,u⟩:=p;obtain⟨n,h1,h2⟩:=CU hf;simp only[VW] at h1;subst h1
   have hj:j<l.length:=by
    rcases VE j l.length with h'|h'
    . exact h'
    . rw[VN h'] at h2;cases h2
   have g6:j<es.size:=by have:es.toList.length=es.size:=rfl;omega
   have g8:es[j].key=enc k:=by
    have h3:=Wo (fun x=>x[j]?) hm;simp only[WP,h2,WI] at h3;have h4:es.toList[j]?=some es[j]:=by simp[g6]
    rw[h4] at h3;simp only[WI,Wg,Xg] at h3;exact h3.1
   have g9:(Instr.keyThatStays (((es[j]?).map (·.key)).getD (enc k)) (enc k)).run P w=.ok (enc k) w:=by
    simp only[Array.getElem?_eq_getElem g6,WI,XR,g8];exact L.stays w k
   refine⟨{ w with heap:=w.heap.setIfInBounds b (.map (es.modify j fun e=>{ e with key:=enc k,val:=v }) c) },?_,?_,g1 _⟩
   . simp only[Instr.mapUpdate,WB,We hT,VZ,DP hb,L.check,L.find w k l es.toList hm,hf,g9,g2]
   ·have g3:(es.modify j fun e=>{ e with key:=enc k,val:=v }).toList=es.toList.set j { es[j] with key:=enc k,val:=v }:=by
     apply Xh (by simp);intro i gd gc;simp only[Array.getElem_toList,Array.getElem_modify,List.getElem_set];split
     . rename_i e;subst e;rfl
     . rfl
    refine⟨⟨es.modify j fun e=>{ e with key:=enc k,val:=v },c,by simp[g5],?_,?_,?_⟩,GJ h.nodup k v⟩
    . unfold putL;rw[hf,g3];simp[X9,hm]
    ·intro e he;rw[g3] at he;rcases List.mem_or_eq_of_mem_set he with he|rfl
     . exact g0 e he
     . exact g0 es[j] (by simp)
    ·have:((es.modify j fun e=>{ e with key:=enc k,val:=v }).toList.map (·.born))=es.toList.map (·.born):=by
      rw[g3,X9];apply Xh (by simp);intro i gd gc;simp only[List.getElem_set,X3,Array.getElem_toList];split
      . rename_i e;subst e;rfl
      . rfl
     rw[this];exact g4
theorem GK {α β:Type}(f:α->β):∀ (l:List α) (j:Nat),(l.eraseIdx j).map f=(l.map f).eraseIdx j
 | [],_=>rfl
 | _::_,0=>rfl
 | x::l,j+1=>by simp[GK f l j]
theorem GL {l:List (κ×Value)}(hn:(l.map Prod.fst).Nodup)(k:κ):((delL k l).map Prod.fst).Nodup:=by
 unfold delL;split
 . exact hn.sublist ((List.eraseIdx_sublist _ _).map _)
 . exact hn
theorem O5 {l:List (κ×Value)}(hn:(l.map Prod.fst).Nodup)(k k':κ):getL (delL k l) k'=if k'=k then none else getL l k':=by
 refine Kd (GL hn k) ?_ ?_
 ·intro u hu;split at hu
  . cases hu
  ·rename_i g2
   have hm:=F9 hu;unfold delL;cases hf:AE k l 0 with
   | none=>exact hm
   | some p =>
     obtain⟨j,x⟩:=p;obtain⟨n,h1,h2⟩:=CU hf;simp only[VW] at h1;subst h1
     dsimp only;rw[List.mem_eraseIdx_iff_getElem?];obtain⟨m,g1,he⟩:=Xb.1 hm;refine⟨m,?_,by rw[VA g1,he]⟩;rintro rfl;rw[VA g1,he] at h2;simp only[Wg,Xg] at h2;exact g2 h2.1
 ·intro ho p hp e;unfold delL at hp;cases hf:AE k l 0 with
  | none =>
    rw[hf] at hp;split at ho
    . rename_i h;subst h;exact F8 hf p hp e
    . exact CV.1 ho p hp e
  | some q =>
    obtain⟨j,x⟩:=q;rw[hf] at hp;dsimp only at hp;obtain⟨n,h1,h2⟩:=CU hf;simp only[VW] at h1;subst h1
    obtain⟨m,g3,hm⟩:=List.mem_eraseIdx_iff_getElem?.1 hp;split at ho
    ·rename_i h;subst h
     have hj:j<l.length:=by
      rcases VE j l.length with h'|h'
      . exact h'
      . rw[VN h'] at h2;cases h2
     have g0:m<l.length:=by
      rcases VE m l.length with h'|h'
      . exact h'
      . rw[VN h'] at hm;cases hm
     rw[VA hj] at h2;rw[VA g0] at hm;have:m=j:=by
      apply(List.getElem_inj (h₀:=by simpa using g0) (h₁:=by simpa using hj) hn).1;simp only[Wg] at h2 hm;simp[h2,hm,e]
     exact g3 this
    . exact CV.1 ho p (List.mem_of_getElem? hm) e
theorem A3.delete {K E:TypeId}{enc:κ->Value}{l:List (κ×Value)}(h:A3 w b enc l)(L:CT P K enc)(hT:P.underlying T=some (.map K E))(k:κ)(ty:TypeId) :
 ∃ w',(Builtin.delete_ #[T,K] ty #[.map (some b),enc k]).run P w=.ok (.tuple #[]) w'/\A3 w' b enc (delL k l)/\w.grownBy w' (some b):=by
 obtain⟨es,c,hb,hm,g1,g4⟩:=h.ex;have g5:=h.lt;have g8:es.toList.length=l.length:=by have:=Wo List.length hm;simpa using this
 have g2:∀ o:Obj,(setObj b o).run P w=.ok () { w with heap:=w.heap.setIfInBounds b o }:=by
  intro o;simp[setObj,Sem.run,hb]
 have g0:∀ o:Obj,w.grownBy { w with heap:=w.heap.setIfInBounds b o } (some b):=by
  intro o;refine⟨rfl,rfl,rfl,by simp,fun i hi g6=>?_⟩;have:b≠i:=by rintro rfl;exact g6 rfl
  simp[this]
 cases hf:AE k l 0 with
 | none =>
   refine⟨{ w with heap:=w.heap.setIfInBounds b (.map es c) },?_,?_,g0 _⟩
   . simp[Builtin.delete_,We hT,DP hb,L.check,L.find w k l es.toList hm,hf,g2]
   . refine⟨⟨es,c,by simp[g5],?_,g1,g4⟩,GL h.nodup k⟩;unfold delL;rw[hf];exact hm
 | some p =>
   obtain⟨j,u⟩:=p;obtain⟨n,h1,h2⟩:=CU hf;simp only[VW] at h1;subst h1
   have hj:j<l.length:=by
    rcases VE j l.length with h'|h'
    . exact h'
    . rw[VN h'] at h2;cases h2
   have g7:j<es.size:=by have:es.toList.length=es.size:=rfl;omega
   refine⟨{ w with heap:=w.heap.setIfInBounds b (.map (es.eraseIdxIfInBounds j) c) },?_,?_,g0 _⟩
   . simp[Builtin.delete_,We hT,DP hb,L.check,L.find w k l es.toList hm,hf,g2]
   ·have g3:(es.eraseIdxIfInBounds j).toList=es.toList.eraseIdx j:=by simp[Array.eraseIdxIfInBounds,g7]
    refine⟨⟨es.eraseIdxIfInBounds j,c,by simp[g5],?_,?_,?_⟩,GL h.nodup k⟩
    . unfold delL;rw[hf,g3];rw[GK,GK,hm]
    . intro e he;rw[g3] at he;exact g1 e (List.mem_of_mem_eraseIdx he)
    . rw[g3];exact g4.sublist ((List.eraseIdx_sublist _ _).map _)
theorem A3.size {w:Wd}{b:Nat}{K T E:TypeId}{enc:κ->Value}{l:List (κ×Value)}(h:A3 w b enc l)(hT:P.underlying T=some (.map K E))(ty:TypeId) :
 (Builtin.len_ #[T] ty #[.map (some b)]).run P w=.ok (Iv l.length) w:=by
 obtain⟨es,c,hb,hm,_⟩:=h.ex;have g0:es.toList.length=l.length:=by have:=Wo List.length hm;simpa using this
 have:es.size=l.length:=g0;simp[Builtin.len_,We hT,DP hb,goInt,this]
abbrev X1:=@List.cons.injEq
theorem Ke {K:TypeId}(hK:P.underlying K=some (.int .i64)):CT P K (Value.int .i64) where
 check w em k:=MapKept.run_checkKey hK (by simp[MapKept.IsKey]) em 9999
 find w k l es h:=by
  have key:∀ (es:List MapEntry) (l:List (Int×Value)) (i:Nat),es.map (fun e=>(e.key,e.val))=l.map (fun p=>(Value.int .i64 p.1,p.2))->Instr.findNow (.int .i64) (Iv k) es i=some (AE k l i):=by
   intro es
   induction es with
   | nil=>intro l i h;cases l with
     | nil=>rfl
     | cons p l=>simp at h
   | cons e es ih =>
     intro l i h;cases l with
     | nil=>simp at h
     | cons p l =>
       simp only[WG,X1,Xg] at h;obtain⟨⟨h1,h2⟩,h3⟩:=h;simp only[Instr.findNow,h1,Instr.sameNow,Wy,AE]
       by_cases e1:p.1=k
       . simp[e1,h2]
       ·have h5:(k == p.1)=false:=by simpa using(fun e:k=p.1=>e1 e.symm)
        simp[e1,h5,ih l (i+1) h3]
  simp[Instr.findKey,We hK,key es l 0 h]
 stays w k:=by simp[Instr.keyThatStays,Instr.sameBits]
theorem O6 {K:TypeId}{d:TypeDesc}{enc:κ->Value}(hK:P.underlying K=some d)(hd:∀ a b,Instr.sameNow d (enc a) (enc b)=none)
 (heq:∀ (w:Wd) a b,(Op.equal K (enc a) (enc b)).run P w=.ok (decide (a=b)) w)
 (hcheck:∀ (w:Wd) (em:Bool) (k:κ),(Instr.checkKey em 10000 K (enc k)).run P w=.ok () w)
 (hstays:∀ (w:Wd) (k:κ),(Instr.keyThatStays (enc k) (enc k)).run P w=.ok (enc k) w):CT P K enc where
 check:=hcheck
 stays:=hstays
 find w k l es h:=by
  have key:∀ (es:List MapEntry) (l:List (κ×Value)) (i:Nat),es.map (fun e=>(e.key,e.val))=l.map (fun p=>(enc p.1,p.2))->(Instr.findAsking K (enc k) es i).run P w=.ok (AE k l i) w:=by
   intro es
   induction es with
   | nil=>intro l i h;cases l with
     | nil=>rfl
     | cons p l=>simp at h
   | cons e es ih =>
     intro l i h;cases l with
     | nil=>simp at h
     | cons p l =>
       simp only[WG,X1,Xg] at h;obtain⟨⟨h1,h2⟩,h3⟩:=h;simp only[Instr.findAsking,WB,h1,heq,VZ,AE]
       by_cases e1:k=p.1
       . have e2:p.1=k:=e1.symm;simp[e1,h2]
       ·have e2:¬ p.1=k:=fun e=>e1 e.symm
        simp[e1,e2,ih l (i+1) h3]
  cases es with
  | nil =>
    cases l with
    | nil=>simp[Instr.findKey,We hK,Instr.findNow,AE]
    | cons p l=>simp at h
  | cons e es =>
    cases l with
    | nil=>simp at h
    | cons p l =>
      have h':=h;simp only[WG,X1,Xg] at h';have hn:Instr.findNow d (enc k) (e::es) 0=none:=by simp[Instr.findNow,h'.1.1,hd]
      simp[Instr.findKey,We hK,hn,key _ _ 0 h]
theorem Kf {o:Oper}{K E:TypeId}{enc:κ->Value}{l:List (κ×Value)}
 (hg:o.guard=none) (m x y:Operand) (hop:o.op=Op.mapUpdate T m x y) (L:CT P K enc) (hT:P.underlying T=some (.map K E))
 (k:κ) (v:Value) (hm:a.eval m=.map (some b)) (hx:a.eval x=enc k) (hy:a.eval y=v) (h:A3 w b enc l)
 (hK:∀ w',A3 w' b enc (putL k v l)->w.grownBy w' (some b)->wpList P ops Q rest (a.put o.dst undef) w'):wpList P ops Q (o::rest) a w:=by
 refine wpList_plain hg fun K' g0=>?_
 obtain⟨w',hr,h1,h2⟩:=h.update L hT k v;unfold Oper.wp;simp[execOp,hop,hm,hx,hy,hr,Result.andThen];exact g0 _ _ (hK w' h1 h2)
end
theorem GM:(prog.info? 101).map (fun i=>i.size)=some 1:=by kernel_rfl
def encE (q:Nat×Nat):Value:=.agg #[Iv q.1,Iv q.2]
theorem Dk (w:Wd)(hT:prog.underlying T=some (.int .i64))(xs:Array Value)(i:Nat)(v:Value)(h:xs[i]?=some v):(part T xs i).run prog w=.ok v w:=by
 simp[part,isAgg,We hT,h]
theorem ckE (w:Wd)(em:Bool)(k:Nat×Nat):(Instr.checkKey em 10000 280 (encE k)).run prog w=.ok () w:=by
 have h:=fun(x:Int)=>MapKept.run_checkKey (P:=prog) (w:=w) (kt:=101) (k:=Iv x) underlying101 (by simp[MapKept.IsKey]) em 9998
 have s:=GM;cases hi:prog.info? 101 with
 | none=>rw[hi] at s;cases s
 | some i =>
   rw[hi] at s;simp only[WI,Wg] at s;have hs:=run_sizeOf w hi;rw[show prog.cellsOf 101=1 by kernel_rfl] at hs;have p0:=Dk w underlying101 #[Iv k.1,Iv k.2] 0 _ rfl;have p1:=Dk w underlying101 #[Iv k.1,Iv k.2] 1 _ rfl;unfold Instr.checkKey encE;simp only[WB,We underlying280,VZ];simp[hs,List.range',p0,p1,h]
theorem eqE (w:Wd)(a b:Nat×Nat):(Op.equal 280 (encE a) (encE b)).run prog w=.ok (decide (a=b)) w:=by
 have hq:=fun(x y:Int)=>run_equalIn_int (P:=prog) w 9998 101 .i64 .i64 x y underlying101
 have s:=GM;cases hi:prog.info? 101 with
 | none=>rw[hi] at s;cases s
 | some i =>
   rw[hi] at s;simp only[WI,Wg] at s;have hs:=run_sizeOf w hi;rw[show prog.cellsOf 101=1 by kernel_rfl] at hs;have p0:=fun k:Nat×Nat=>Dk w underlying101 #[Iv k.1,Iv k.2] 0 _ rfl
   have p1:=fun k:Nat×Nat=>Dk w underlying101 #[Iv k.1,Iv k.2] 1 _ rfl
   have hd:Op.maxDepth=9999+1:=rfl;unfold Op.equal encE;rw[hd];unfold Op.equalIn;simp only[WB,We underlying280,VZ,hs];simp[List.range',p0,p1,hq];obtain⟨a1,a2⟩:=a;obtain⟨b1,b2⟩:=b;have e1:((a1:Int)=b1)↔a1=b1:=by omega
   have e2:((a2:Int)=b2)↔a2=b2:=by omega
   by_cases h1:a1=b1<;>by_cases h2:a2=b2<;>simp[e1,e2,h1,h2]
theorem Dl:CT prog 280 encE :=
 O6 underlying280 (fun a b=>by simp[Instr.sameNow]) eqE ckE (fun w k=>by simp[Instr.keyThatStays,Instr.sameBits,encE])
structure AN (o:Own)(w:Wd)(v t:Nat)(f:Nat×Nat->Option Nat):Prop where
 own:o t=some (.tab v)
 ex:∃ mb l,w.heap[t]?=some (.cells #[.map (some mb)] 230 (0,0))/\o mb=some (.tmap v)/\A3 w mb encE l/\∀ k,getL l k=(f k).map (fun(id:Nat)=>Value.int .i64 id)
theorem AN.keep {o:Own}{v t:Nat}{f:Nat×Nat->Option Nat}(h:AN o w v t f)(hk:∀ g r,o g=some r->(r=.tab v\/r=.tmap v)->w'.heap[g]?=w.heap[g]?)(ho:∀ g r,o g=some r->o' g=some r):AN o' w' v t f:=by
 obtain⟨mb,l,h1,h2,h3,h4⟩:=h.ex;refine⟨ho _ _ h.own,mb,l,(hk _ _ h.own (.inl rfl)).trans h1,ho _ _ h2,?_,h4⟩;obtain⟨es,c,hb,rest⟩:=h3.ex;exact⟨⟨es,c,(hk _ _ h2 (.inr rfl)).trans hb,rest⟩,h3.nodup⟩
theorem AN.chg {o:Own}{v t:Nat}{f:Nat×Nat->Option Nat}(h:AN o w v t f)(hc:Chg R o o' w w')(hlt:Ac o w)(h1:¬ R (.tab v))(h2:¬ R (.tmap v)):AN o' w' v t f :=
 h.keep (fun g r hg hr=>hc.same hlt hg (by rcases hr with rfl|rfl<;>assumption)) hc.ext
theorem AN.below {o:Own}{v t:Nat}{f:Nat×Nat->Option Nat}(h:AN o w v t f)(hb:Bw w w')(hlt:Ac o w):AN o w' v t f :=
 h.keep (fun g r hg _=>hb.block g (hlt g r hg)) (fun _ _ h=>h)
theorem cell1 {a:Value}(h:w.heap[g]?=some (.cells #[a] T (0,0))):w.cell? (Av g)=some a:=by rw[Vt w g 0 _ _ _ h];rfl
theorem AN.look {o:Own}{v t:Nat}{f:Nat×Nat->Option Nat}(h:AN o w v t f)(lo hi:Nat):∃ mb,w.cell? (Av t)=some (.map (some mb)) /\
 (Instr.lookup 228 (.map (some mb)) (.agg #[Iv lo,Iv hi]) true).run prog w=.ok (match f (lo,hi) with|some id=>.tuple #[Iv id,.bool true]|none=>.tuple #[Iv 0,.bool false]) w:=by
 obtain⟨mb,l,h1,h2,h3,h4⟩:=h.ex;refine⟨mb,cell1 h1,?_⟩;have:=h3.lookup Dl underlying228 zeroValue3 (lo,hi) true;rw[h4] at this;refine this.trans ?_;cases f (lo,hi)<;>rfl
theorem GN (o:Own)(v t:Nat)(f:Nat×Nat->Option Nat)(lo hi id:Nat)(w:Wd)(h:AN o w v t f)(hf:f (lo,hi)=some id) :
 Cl 247 #[Pt t,Iv lo,Iv hi] w (Sm (.tuple #[Iv id,.bool true]) w):=by
 obtain⟨mb,c0,hl⟩:=h.look lo hi;rw[hf] at hl;clear h hf
 go_enter func247,ntmps247
 go_wp2
 go_ret2
 exact⟨rfl,rfl⟩
theorem GO (o:Own)(v t:Nat)(f:Nat×Nat->Option Nat)(lo hi:Nat)(w:Wd)(h:AN o w v t f)(hf:f (lo,hi)=none) :
 Cl 247 #[Pt t,Iv lo,Iv hi] w (Sm (.tuple #[Iv 0,.bool false]) w):=by
 obtain⟨mb,c0,hl⟩:=h.look lo hi;rw[hf] at hl;clear h hf
 go_enter func247,ntmps247
 go_wp2
 go_ret2
 exact⟨rfl,rfl⟩
def putF (f:Nat×Nat->Option Nat)(k:Nat×Nat)(x:Option Nat):Nat×Nat->Option Nat:=fun q=>if q=k then x else f q
theorem Kg (o:Own)(v t:Nat)(f:Nat×Nat->Option Nat)(lo hi id:Nat)(w:Wd)(h:AN o w v t f)(hlt:Ac o w)(hf:f (lo,hi)=none) :
 Cl 225 #[Pt t,Iv lo,Iv hi,Iv id] w fun x w'=>x=.returned (Iv 0)/\AN o w' v t (putF f (lo,hi) (some id))/\Chg (· = .tmap v) o o w w'/\Ac o w':=by
 obtain⟨mb,l,h1,h2,h3,h4⟩:=h.ex;have c0:=cell1 h1;have hl:=h3.lookup Dl underlying228 zeroValue3 (lo,hi) true;rw[h4,hf] at hl;simp only[Option.map_none,Option.getD_none,Option.isSome_none,Wy] at hl;unfold encE at hl;obtain⟨w',hr,h5,h6⟩:=h3.update Dl underlying228 (lo,hi) (Iv id);have g2:(Instr.mapUpdate 228 (.map (some mb)) (.agg #[Iv lo,Iv hi]) (Iv id)).run prog w=.ok () w':=hr;have g0:AN o w' v t (putF f (lo,hi) (some id)):=by
  refine⟨h.own,mb,_,(h6.block t (hlt _ _ h.own) (fun e=>by cases e;have:=h.own;rw[h2] at this;cases this)).trans h1,h2,h5,fun k=>?_⟩;rw[O4 h3.nodup,h4];unfold putF;split<;>rfl
 have hc:Chg (· = .tmap v) o o w w':=(Chg.refl _ o w).grown h6 (fun g e=>by cases e;exact⟨_,h2,rfl⟩);have g1:Ac o w':=hlt.mono h6.size;have HF:=Hd g0;have HC:=Hd hc;have HO:=Hd g1;clear h h1 h2 h3 h4 h5 h6 hr g0 hc g1 hlt hf
 go_enter func225,ntmps225
 go_wp2
 go_ret;exact⟨rfl,HF.o,HC.o,HO.o⟩
theorem Kh (o:Own)(v t:Nat)(f:Nat×Nat->Option Nat)(lo hi id:Nat)(w:Wd)(h:AN o w v t f)(hlt:Ac o w)(hf:f (lo,hi)=some id) :
 Cl 221 #[Pt t,Iv lo,Iv hi] w fun x w'=>x=.returned (Iv 0)/\AN o w' v t (putF f (lo,hi) none)/\Chg (· = .tmap v) o o w w'/\Ac o w':=by
 obtain⟨mb,l,h1,h2,h3,h4⟩:=h.ex;have c0:=cell1 h1;have hl:=h3.lookup Dl underlying228 zeroValue3 (lo,hi) true;rw[h4,hf] at hl;simp only[WI,XR,Option.isSome_some,Wy] at hl;unfold encE at hl;have g1:=fun ty=>h3.delete Dl underlying228 (lo,hi) ty
 obtain⟨w',hr,h5,h6⟩:=g1 0;have g3:(Builtin.delete_ #[228,280] 0 #[.map (some mb),.agg #[Iv lo,Iv hi]]).run prog w=.ok (.tuple #[]) w':=hr;have g0:AN o w' v t (putF f (lo,hi) none):=by
  refine⟨h.own,mb,_,(h6.block t (hlt _ _ h.own) (fun e=>by cases e;have:=h.own;rw[h2] at this;cases this)).trans h1,h2,h5,fun k=>?_⟩;rw[O5 h3.nodup,h4];unfold putF;split<;>rfl
 have hc:Chg (· = .tmap v) o o w w':=(Chg.refl _ o w).grown h6 (fun g e=>by cases e;exact⟨_,h2,rfl⟩);have g2:Ac o w':=hlt.mono h6.size;have HF:=Hd g0;have HC:=Hd hc;have HO:=Hd g2;clear h h1 h2 h3 h4 h5 h6 hr g0 hc g2 hlt hf g1
 go_enter func221,ntmps221
 go_wp2
 go_ret;exact⟨rfl,HF.o,HC.o,HO.o⟩
end Go.Proofs.YtkidaindpahefaaGreat
