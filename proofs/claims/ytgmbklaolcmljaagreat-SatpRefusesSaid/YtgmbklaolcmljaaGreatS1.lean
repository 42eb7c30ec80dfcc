/- Several texts in one file: contracts of the program's functions and what follows from them. -/
import Derived.Test.YtgmbklaolcmljaaGreatRows
import Derived.WalkKit
import Derived.WalkSpells
import Derived.WalkLawsBesides
import Derived.Lib.Hide
import Derived.BigQuiet
import Derived.Deep.QuietTactic
import Derived.Deep.LoopGhost
import Derived.Deep.RegionWith
import Derived.Laws.CopyOwn
import Derived.Laws.AppendOwnNone
import Derived.Maps.AppendAt
import Derived.OwnWalk
import Derived.Laws.Bits64
import Derived.OrdersHeld
import Derived.KernelRfl
import Derived.Deep.CutBlock
import Derived.Deep.DeepCutAuto
import Derived.MapKept
import Derived.ChangeKeysEq
import Derived.Maps.OwnSet
import Derived.Laws.MakeOwn
set_option linter.unusedSimpArgs false
set_option linter.unusedVariables false
set_option linter.unusedSectionVars false
set_option linter.unnecessarySimpa false
set_option maxRecDepth 100000
set_option maxHeartbeats 8000000
namespace Go.Proofs.YtgmbklaolcmljaaGreat
open Go.Proofs.Tryz
open Go.RowKit
def Hq(p:Prop):Prop:=p
theorem Hq.o{p:Prop}(h:Hq p):p:=h
theorem Hd{p:Prop}(h:p):Hq p:=h
abbrev Wd:=World
abbrev Pt(b:Nat):Value:=.pointer (some ⟨b,0,none⟩)
abbrev Sm(v:Value)(w:World):Ending->World->Prop:=fun x w'=>x=.returned v/\w=w'
abbrev Bl(v:Value)(w:World):Ending->World->Prop:=fun x w'=>x=.returned v/\Below w.heap.size w w'
abbrev Bw(w w':World):Prop:=Below w.heap.size w w'
theorem Ex{α:Sort _}(a:α):∃ y,y=a:=⟨_,rfl⟩
abbrev YE:=@World.block_lt_of_cell?
theorem Cq{w w':World}{b k:Nat}{v:Value}(h:Below w.heap.size w w')(e:w.cell? ⟨b,k,none⟩=some v):w'.cell? ⟨b,k,none⟩=some v:=(h.cell (p:=⟨b,k,none⟩) (YE w _ e)).trans e
abbrev Xz:=@World.cell?_of_block
theorem Co{w w':World}{b k:Nat}{v:Value}(f:w.cell? ⟨b,k,none⟩=some v)(e:w'.heap[b]?=w.heap[b]?):w'.cell? ⟨b,k,none⟩=some v:=(Xz (w:=w) (a:=⟨b,k,none⟩) e).trans f
variable {B b c cap e g gf i id j k k' mb n pb x:Nat}{L:Array Bool}{P:Program}{Q:Exit->Act->Wd->Prop}{S:Wd->Prop}{T t:TypeId}{W w w' w'' w0 wr wx:Wd}{a:Act}{l rest:List Oper}{last:Bool}{ops:Array Oper}{r:List (Option Oper×Bool)}{row:Option Nat}{u v v' vf:Value}{xs:List Value}{zs:List Int}

theorem Ac:(∀ (a:Act) (d:Tmp) (v:Value),a.put (some d) v={ a with tmps:=a.tmps.setIfInBounds d v })/\(∀ (a:Act) (v:Value),a.put none v=a)/\(∀ (l:List Value) (i:Nat) (x:Value),l.toArray.setIfInBounds i x=(l.set i x).toArray)/\(∀ (l:List Value) (x y:Value),(x::l).set 0 y=y::l)/\(∀ (l:List Value) (n:Nat) (x y:Value),(x::l).set (n+1) y=x::l.set n y) :=
 ⟨fun _ _ _=>rfl,fun _ _=>rfl,fun _ _ _=>List.setIfInBounds_toArray ..,fun _ _ _=>rfl,fun _ _ _ _=>rfl⟩
abbrev X0:=@Option.some.injEq
theorem Ce:(∀ (l:List Oper) (x:Oper),(x::l)[0]?=some x)/\(∀ (l:List Oper) (n:Nat) (x:Oper),(x::l)[n+1]?=l[n]?)/\(∀ x y:Oper,(some x=some y)=(x=y)) :=
 ⟨fun _ _=>rfl,fun _ _ _=>rfl,fun x y=>X0 x y⟩
abbrev XI:=@List.mem_cons
abbrev YW:=@List.not_mem_nil
theorem Cr:(∀ (l:List Nat) (a b:Nat),(a∈b::l)=(a=b\/a∈l))/\(∀ a:Nat,(a∈([]:List Nat))=False)/\(∀ p:Prop,(p\/False)=p) :=
 ⟨fun _ _ _=>propext XI,fun _=>eq_false YW,fun p=>or_false p⟩
theorem AQ:(∀ (f:Nat×Bool->Option Oper×Bool) (a:Nat×Bool) (l:List (Nat×Bool)),(a::l).map f=f a::l.map f)/\(∀ f:Nat×Bool->Option Oper×Bool,[].map f=[])/\(∀ (l:List Oper) (n:Nat) (x:Oper),(x::l)[n+1]?=l[n]?)/\(∀ (l:List Oper) (x:Oper),(x::l)[0]?=some x) :=
 ⟨fun _ _ _=>rfl,fun _=>rfl,fun _ _ _=>rfl,fun _ _=>rfl⟩
open Go.Maps
theorem GQ {a b:Int}(h:a=b):Ending.returned (.int .i64 a)=.returned (.int .i64 b):=by rw[h]
theorem C6 {a b:Bool}(h:a=b):Ending.returned (.bool a)=.returned (.bool b):=by rw[h]
theorem Cs {a:Wd}(h:Below B a w)(n:Nat):Below B a (w.drewN n):=Go.below_drewN h n
def at0 (zs:List Int)(k:Nat):Int:=zs.getD k 0
theorem AI (h:k<zs.length):at0 zs k=zs[k]:=by simp[at0,List.getD,h]
abbrev WS:=@List.getElem?_eq_getElem
theorem getElem?_at0 (h:k<zs.length):zs[k]?=some (at0 zs k):=by rw[AI h];exact WS h
def As (zs:List Int):List Value:=zs.map (Value.int .i64)
theorem GR (zs:List Int):(As zs).length=zs.length:=by simp[As]
structure An (w:Wd)(a:Option Addr)(zs:List Int):Prop where
 len:zs.length<=9223372036854775807
 cells:∀ k,k<zs.length->∃ b off,a=some ⟨b,off,none⟩/\w.cell? ⟨b,off+k,none⟩=some (.int .i64 (at0 zs k))
theorem Ag {p:Addr}(h:w.cell? p=some v):p.block<w.heap.size:=YE w p h
theorem An.below {a:Option Addr}(h:An w a zs)(hb:Bw w w'):An w' a zs :=
 ⟨h.len,fun k hk=>by
  obtain⟨b,off,rfl,hc⟩:=h.cells k hk;exact⟨b,off,rfl,by rw[hb.cell (p:=⟨b,off+k,none⟩) (Ag hc)];exact hc⟩⟩
def JZ (w:Wd)(v:Value)(zs:List Int):Prop:=∃ a c,v=.slice a zs.length c/\An w a zs
abbrev YO:=@Value.slice.injEq
abbrev Xw:=@Nat.zero_add
abbrev XC:=@List.getElem?_map
theorem Ka {base:Nat}{a:Option Addr}(hl:zs.length<=9223372036854775807)
 (h:w.ownsRow base e 1 (.slice a n c) n (As zs)):An w a zs:=by
 refine⟨hl,fun k hk=>?_⟩;rcases h.2 with ⟨hv,h0⟩|⟨g,cap,cur,hv,_⟩
 . have:=h.1;rw[GR] at this;omega
 . simp only[YO] at hv;obtain⟨rfl,_,rfl⟩:=hv;refine⟨g,0,rfl,?_⟩;have h1:=h.1;rw[GR] at h1;have:=h.cellAt k (by omega);rw[Xw,this,As,XC,getElem?_at0 hk];rfl
abbrev Yg:=@List.eq_nil_of_length_eq_zero
theorem O7 {base:Nat}(hl:zs.length<=9223372036854775807)
 (h:w.ownsRow base e 1 v zs.length (As zs)):JZ w v zs:=by
 rcases h.2 with ⟨rfl,h0⟩|⟨g,cap,cur,rfl,_⟩
 . have:zs=[]:=Yg h0;subst this;exact⟨none,0,rfl,by simp,by simp⟩
 . exact⟨_,_,rfl,Ka hl h⟩
def OwnI (w:Wd)(base:Nat)(v:Value)(zs:List Int):Prop:=w.ownsRow base 3 1 v zs.length (As zs)
theorem OwnI.alloc {w:Wd}{base:Nat}{v:Value}{zs:List Int}(h:OwnI w base v zs)(o:Obj):OwnI (w.alloc o) base v zs:=World.ownsRow.alloc h o
theorem OwnI.drewN {w:Wd}{base:Nat}{v:Value}{zs:List Int}(h:OwnI w base v zs)(n:Nat):OwnI (w.drewN n) base v zs:=h
theorem OwnI.below {base:Nat}(h:OwnI w base v zs)(hb:Bw w w'):OwnI w' base v zs:=by
 refine World.ownsRow.kept (row:=none) h ⟨hb.os,hb.tape,hb.output,hb.size,fun k hk _=>hb.block k hk⟩ ?_;cases v.ownBlock<;>simp
theorem OwnI.lt {w:Wd}{base:Nat}{v:Value}{zs:List Int}(h:OwnI w base v zs):∀ k,v.ownBlock=some k->base<=k/\k<w.heap.size:=World.ownsRow.lt h
theorem OwnI.sliceOf {base:Nat}(h:OwnI w base v zs)(hl:zs.length<=9223372036854775807):JZ w v zs:=O7 hl h
theorem F4 (w:Wd)(base:Nat)(hb:base<=w.heap.size):OwnI (w.alloc (.cells #[] 3)) base (.slice (some ⟨w.heap.size,0,none⟩) 0 0) [] :=
 World.ownsRow_made w #[] 0 hb (by unfold maxLen;omega) (by simp)
theorem EM (w:Wd)(base:Nat):OwnI w base (.slice none 0 0) []:=World.ownsRow_nil w base 3 1
def CJ (row:Option Nat)(w w':Wd):Prop:=∀ k,k<w.heap.size->some k≠row->w'.heap[k]?=w.heap[k]?
abbrev WT:=@Go.heap_alloc_old
theorem GS {o:Obj}(h:(w.alloc o).grownBy w' row):CJ row w w':=fun k hk hne=>by
 rw[h.block k (by simp;omega) hne,WT w o hk]
theorem F5 (h:w.grownBy w' row):CJ row w w':=fun k hk hne=>h.block k hk hne
theorem O8 (row:Option Nat)(w:Wd):CJ row w w:=fun _ _ _=>rfl
theorem An.keep {a:Option Addr}(h:An w a zs)(hk:CJ row w w')(hne:∀ x,a=some x->some x.block≠row):An w' a zs :=
 ⟨h.len,fun k hk'=>by
  obtain⟨b,off,rfl,hc⟩:=h.cells k hk';exact⟨b,off,rfl,Co hc (hk b (Ag hc) (hne _ rfl))⟩⟩
abbrev WL:=@Array.getElem?_eq_some_iff
theorem OwnI.keep {base:Nat}(h:OwnI w base v zs)(hk:CJ row w w')(hne:∀ k,v.ownBlock=some k->some k≠row):OwnI w' base v zs:=by
 refine⟨h.1,?_⟩;rcases h.2 with hn|⟨g,cap,cur,rfl,hb,g0,rest⟩
 . exact .inl hn
 . refine .inr ⟨g,cap,cur,rfl,hb,?_,rest⟩;rw[hk g (WL.1 g0).1 (hne g rfl)];exact g0
structure Cf (v v':Value)(w w':Wd):Prop where
 keep:CJ v.ownBlock w w'
 loc:v'.ownBlock=v.ownBlock\/∃ k,v'.ownBlock=some k/\w.heap.size<=k
theorem Cf.ne (h:Cf v v' w w')(hne:v.ownBlock≠some g)(hg:g<w.heap.size):v'.ownBlock≠some g:=by
 rcases h.loc with e|⟨k,e,hk⟩
 . rw[e];exact hne
 . rw[e];intro hh;cases hh;omega
theorem El:(prog.info? 3).map (fun i=>(i.zero,i.size,i.bytes))=some (some (.int .i64 0),1,8):=by kernel_rfl
abbrev Y9:=@info_parts
theorem Dn (wr:Wd){o:Oper}(hgd:o.guard=none)(s x:Operand)
 (ho:o.op=.call { callee:=.builtin .append,args:=#[s,x],argTypes:=#[22,22] })
 (base:Nat) (w0:Wd) (v:Value) (zs:List Int) (y:Int) (hs:a.eval s=v) {N:Nat} (hx:a.eval x=.slice (some ⟨N,0,none⟩) 1 1)
 (hW:W=wr.alloc (.cells #[.int .i64 y] 3)) (hN:N=wr.heap.size)
 (hown:OwnI wr base v zs) (hlen:zs.length<1099511627776) (hbase:base<=wr.heap.size) (hb:Below base w0 wr)
 (h:∀ v' w',OwnI w' base v' (zs++[y])->Below base w0 w'->base<=w'.heap.size->Cf v v' wr w'->wpList prog ops Q rest (a.put o.dst v') w') :
 wpList prog ops Q (o::rest) a W:=by
 obtain⟨i,hi,hz,g1,g2⟩:=Y9 El;subst hN;subst hW
 refine wpList_append_own_at (w:=wr.alloc (.cells #[.int .i64 y] 3)) hgd s x 22 ho base 3 i (.int .i64 0) 1 8 underlying22 hi hz g1 g2 rfl (by decide)
  v zs.length (As zs) hs (hown.alloc _) ⟨wr.heap.size,0,none⟩ 1 1 [.int .i64 y] hx rfl (cell_one_new _ _ _) (ints_oneCell .i64 [y]) (by unfold maxLen;omega) (by omega) (by simp;omega) ?_
 intro v' w' h1 h2 _ g0;refine h v' w' ?_ ?_ ?_ ⟨GS h2,g0.imp id fun e=>⟨_,e,by simp⟩⟩
 ·unfold OwnI;have e1:(zs++[y]).length=zs.length+1:=by simp
  have e2:As (zs++[y])=As zs++[.int .i64 y]:=by simp[As]
  rw[e1,e2];exact h1
 . exact(hb.alloc hbase _).grown h2 (by simp;omega) (fun k hk=>(hown.lt k hk).1)
 . have:=h2.size;simp at this;omega
abbrev Xe:=@Nat.lt_or_ge
abbrev Xb:=@List.getElem?_eq_none
abbrev WM:=@Nat.le_refl
theorem GT {o:Oper}(hgd:o.guard=none)(s x:Operand)
 (ho:o.op=.call { callee:=.builtin .append,args:=#[s,x],argTypes:=#[22,22] })
 (base:Nat) (w0:Wd) (v:Value) (zs ys:List Int) (ao:Option Addr) (c:Nat) (hs:a.eval s=v) (hx:a.eval x=.slice ao ys.length c)
 (hown:OwnI wr base v zs) (hys:An wr ao ys) (hlen:zs.length+ys.length<1099511627776) (hbase:base<=wr.heap.size) (hb:Below base w0 wr)
 (hnil:ao=none->c=0)
 (h:∀ v' w',OwnI w' base v' (zs++ys)->Below base w0 w'->base<=w'.heap.size->Cf v v' wr w'->wpList prog ops Q rest (a.put o.dst v') w') :
 wpList prog ops Q (o::rest) a wr:=by
 obtain⟨i,hi,hz,g3,g4⟩:=Y9 El;cases ao with
 | none =>
   have h0:ys=[]:=by
    apply Yg;rcases Nat.eq_zero_or_pos ys.length with h0|h0
    . exact h0
    . obtain⟨b,off,hh,_⟩:=hys.cells 0 h0;cases hh
   subst h0;obtain rfl:=hnil rfl;refine wpList_append_own_none (w:=wr) hgd s x 22 ho base 3 i 1 underlying22 hi v zs.length (As zs) hs hown hx ?_;exact h v wr (by simpa using hown) hb hbase ⟨O8 _ _,.inl rfl⟩
 | some ad =>
   refine wpList_append_own_at (w:=wr) hgd s x 22 ho base 3 i (.int .i64 0) 1 8 underlying22 hi hz g3 g4 rfl (by decide)
    v zs.length (As zs) hs hown ad ys.length c (As ys) hx (by simp[As]) ?_ (ints_oneCell .i64 ys) (by unfold maxLen;omega) (by omega) hbase ?_
   ·intro j u hj;have g0:j<ys.length:=by
     rcases Xe j ys.length with h'|h'
     . exact h'
     . simp[As,Xb h'] at hj
    obtain⟨b,off,g5,hc⟩:=hys.cells j g0;cases g5;simp[As,getElem?_at0 g0] at hj;subst hj;have g2:(⟨b,off,none⟩:Addr).add j=⟨b,off+j,none⟩:=by unfold Addr.add;split<;>simp_all
    rw[g2];exact hc
   ·intro v' w' h1 h2 _ g1;refine h v' w' ?_ ?_ ?_ ⟨F5 h2,g1.imp id fun e=>⟨_,e,WM _⟩⟩
    ·unfold OwnI;have e1:(zs++ys).length=zs.length+ys.length:=by simp
     have e2:As (zs++ys)=As zs++As ys:=by simp[As]
     rw[e1,e2];exact h1
    . exact hb.grown h2 hbase (fun k hk=>(hown.lt k hk).1)
    . have:=h2.size;omega
theorem OwnI.cell {w:Wd}{base g cap n:Nat}{zs:List Int}(h:OwnI w base (.slice (some ⟨g,0,none⟩) n cap) zs)(k:Nat)(hk:k<zs.length) :
 w.cell? ⟨g,k,none⟩=some (.int .i64 (at0 zs k)):=by
 have hn:n=zs.length:=by
  rcases h.2 with ⟨hv,_⟩|⟨_,_,_,hv,_⟩
  . cases hv
  . cases hv;rfl
 subst hn;have:=World.ownsRow.cellAt h k (by omega);rw[this,As,XC,getElem?_at0 hk];rfl
theorem OwnI.frozen {w:Wd}{base g cap n:Nat}{zs:List Int}(h:OwnI w base (.slice (some ⟨g,0,none⟩) n cap) zs)(k:Nat) :
 w.frozen? ⟨g,k,none⟩=false:=by
 rcases h.2 with ⟨hv,_⟩|⟨_,_,_,hv,_⟩
 . cases hv
 . cases hv;exact World.ownsRow.frozenAt h k
abbrev Xi:=@List.length_set
abbrev Yv:=@List.map_set
theorem OwnI.stored {w:Wd}{base g cap n:Nat}{zs:List Int}(h:OwnI w base (.slice (some ⟨g,0,none⟩) n cap) zs)(k:Nat)(y:Int) :
 OwnI (w.setCell ⟨g,k,none⟩ (.int .i64 y)) base (.slice (some ⟨g,0,none⟩) n cap) (zs.set k y):=by
 rcases h.2 with ⟨hv,_⟩|⟨_,_,_,hv,_⟩
 . cases hv
 ·cases hv;have:=(World.ownsRow.stored h k (.int .i64 y)).1;unfold OwnI;rw[Xi];have e:As (zs.set k y)=(As zs).set k (.int .i64 y):=by simp[As,Yv]
  rw[e];exact this
theorem OwnI.setCell_other {base:Nat}(h:OwnI w base v zs){a:Addr}(ha:v.ownBlock≠some a.block)(u:Value):OwnI (w.setCell a u) base v zs:=ownsRow_setCell_other h ha u
theorem Ct {o:Nat}{q:Nat}(h:w.cell? ⟨b,q,none⟩=some u)(hne:g≠b\/o≠q):(w.setCell ⟨g,o,none⟩ v).cell? ⟨b,q,none⟩=some u:=by
 rw[World.cell?_setCell_other w ⟨g,o,none⟩ ⟨b,q,none⟩ v (by intro e;cases e;simp at hne)];exact h
def SliceIs (w:Wd)(v:Value)(zs:List Int):Prop:=∃ a c,v=.slice a zs.length c/\An w a zs/\(a=none->c=0)
theorem SliceIs.below {w w':Wd}{v:Value}{zs:List Int}(h:SliceIs w v zs)(hb:Bw w w'):SliceIs w' v zs:=by
 obtain⟨a,c,rfl,h1,h2⟩:=h;exact⟨a,c,rfl,h1.below hb,h2⟩
theorem OwnI.sliceIs {base:Nat}(h:OwnI w base v zs)(hl:zs.length<=9223372036854775807):SliceIs w v zs:=by
 obtain⟨a,c,rfl,h1⟩:=h.sliceOf hl;refine⟨a,c,rfl,h1,fun e=>?_⟩;subst e;rcases h.2 with ⟨hv,h0⟩|⟨g,cap,cur,hv,_⟩
 . simp only[YO] at hv;exact hv.2.2
 . simp only[YO] at hv;cases hv.1
abbrev Xd:=@Below.refl
theorem Af (w:Wd)(o:Obj):Bw w (w.alloc o):=(Xd _ _).alloc (WM _) _
theorem Ap (w:Wd)(n:Nat):Bw w (w.drewN n):=Cs (Xd _ _) _
theorem F6 (w:Wd)(n:Nat)(o:Obj):Bw w ((w.alloc o).drewN n):=Cs (Af w o) _
theorem An.drewN {w:Wd}{a:Option Addr}{zs:List Int}(h:An w a zs)(n:Nat):An (w.drewN n) a zs:=⟨h.len,h.cells⟩
theorem Kb (w:Wd):SliceIs w (.slice none 0 0) []:=⟨none,0,rfl,⟨by simp,by simp⟩,fun _=>rfl⟩
abbrev WR:=@if_pos
abbrev WO:=@if_neg
theorem sliceIs_of_row {a:Option Addr}{len:Nat}
 (h:(a=none/\len=0/\cap=0/\zs=[])\/∃ x,a=some x/\len<=cap/\cap<=maxLen/\zs.length=cap/\(∀ i,i<zs.length->w.cell? (x.add i)=some (.int .i64 (zs.getD i 0)))/\∀ n∈zs,(Lit.int .i64 n).wf=true) :
 SliceIs w (.slice a len cap) (zs.take len):=by
 rcases h with ⟨rfl,rfl,rfl,rfl⟩|⟨x,rfl,hl,hm,hz,hc,_⟩
 . exact Kb w
 ·have g0:(zs.take len).length=len:=by simp;omega
  refine⟨some x,cap,by rw[g0],⟨by rw[g0];unfold maxLen at hm;omega,fun k hk=>?_⟩,by simp⟩;rw[g0] at hk;have h1:=hc k (by omega);obtain⟨b,off,spot⟩:=x;have g1:∀ k,(⟨b,off,spot⟩:Addr).add k=if k=0 then ⟨b,off,spot⟩ else ⟨b,off+k,none⟩:=fun k=>rfl
  have g2:spot=none:=by
   have h0:=hc 0 (by omega);rw[g1,WR rfl] at h0;cases spot with
   | none=>rfl
   | some s =>
     unfold World.cell? at h0;split at h0<;>simp at h0
  subst g2;refine⟨b,off,rfl,?_⟩;have e:at0 (zs.take len) k=zs.getD k 0:=by simp[at0,List.getD,hk]
  rw[e,<- h1,g1]
  by_cases h0:k=0
  . subst h0;rfl
  . rw[WO h0]
def Cg (zs:List Int)(x:Int):Int:=match zs.idxOf? x with|some k=>k|none=>-1
theorem O9 {x:Int}(h:k<zs.length)(hx:at0 zs k=x)(hn:∀ j,j<k->at0 zs j≠x):Cg zs x=k:=by
 have:zs.idxOf? x=some k:=by
  rw[List.idxOf?_eq_some_iff];refine⟨h,by rw[AI h] at hx;exact hx,?_⟩;intro j hj;have:=hn j hj;rw[AI (Nat.lt_trans hj h)] at this;exact this
 simp[Cg,this]
abbrev Ys:=@List.mem_iff_getElem
theorem OA {x:Int}(hn:∀ j,j<zs.length->at0 zs j≠x):Cg zs x = -1:=by
 have:zs.idxOf? x=none:=by
  rw[List.idxOf?_eq_none_iff];intro hx;obtain⟨j,hj,rfl⟩:=Ys.1 hx;exact hn j hj (AI hj)
 simp[Cg,this]
def BO (zs:List Int):Bool:=decide ((∀ k,k<zs.length->0<=at0 zs k/\at0 zs k<zs.length)/\∀ i,i<zs.length->∀ k,k<i->at0 zs k≠at0 zs i)
theorem Kc (zs:List Int):BO zs=true↔(∀ k,k<zs.length->0<=at0 zs k/\at0 zs k<zs.length)/\∀ i,i<zs.length->∀ k,k<i->at0 zs k≠at0 zs i:=by simp[BO]
theorem Kd (h:¬ ((∀ k,k<zs.length->0<=at0 zs k/\at0 zs k<zs.length)/\∀ i,i<zs.length->∀ k,k<i->at0 zs k≠at0 zs i)):BO zs=false:=by
 rw[Bool.eq_false_iff];intro h';exact h ((Kc zs).1 h')
def Do (zs:List Int)(i:Int):List Int :=
 if 0<=i/\i+1<zs.length then (zs.set i.toNat (at0 zs (i.toNat+1))).set (i.toNat+1) (at0 zs i.toNat) else zs
theorem OB (zs:List Int)(i:Int):(Do zs i).length=zs.length:=by unfold Do;split<;>simp
theorem OC (h:k+1<zs.length):Do zs (k:Int)=(zs.set k (at0 zs (k+1))).set (k+1) (at0 zs k):=by
 unfold Do;rw[WR (by omega)];simp
def iota (n:Nat):List Int:=(List.range n).map Int.ofNat
theorem F7 (n:Nat):(iota n).length=n:=by simp[iota]
abbrev YI:=@List.range_succ
theorem OD (n:Nat):iota (n+1)=iota n++[(n:Int)]:=by simp[iota,YI]
def EN (n:Int):List Int:=iota (min n.toNat 64)
theorem OE (zs:List Int)(x:Int) : -1<=Cg zs x:=by unfold Cg;split<;>omega
theorem OF (zs:List Int)(x:Int):Cg zs x<max 1 zs.length:=by
 unfold Cg;split
 ·rename_i k hk
  rw[List.idxOf?_eq_some_iff] at hk;obtain⟨h,_⟩:=hk;omega
 . omega
def bub (zs:List Int)(i:Nat):Nat->List Int×List Int
 | 0=>(zs,[])
 | d+1=>((bub (Do zs ((i+d:Nat):Int)) i d).1,((i+d:Nat):Int)::(bub (Do zs ((i+d:Nat):Int)) i d).2)
def EO (zs:List Int)(x:Int)(i:Nat):List Int×List Int:=bub zs i (Cg zs x-i).toNat
def Da:List Int->List Int->Nat->List Int
 | _,[],_=>[]
 | now,b::bs,i=>(EO now b i).2++Da (EO now b i).1 bs (i+1)
abbrev X2:=@List.drop_eq_getElem_cons
theorem OG (h:k<zs.length):zs.drop k=at0 zs k::zs.drop (k+1):=by
 rw[X2 h,AI h]
theorem OH (now bs:List Int)(k:Nat)(h:k<bs.length):Da now (bs.drop k) k=(EO now (at0 bs k) k).2++Da (EO now (at0 bs k) k).1 (bs.drop (k+1)) (k+1):=by
 rw[OG h];rfl
def C7 (a b:List Int):List Int:=if BO a=true/\BO b=true/\a.length=b.length then Da a b 0 else []
def C8 (a b:List Int):Int:=if BO a=true/\BO b=true then (if a.length=b.length then 0 else 3) else 1
inductive Role where
 | man|store|levels|vars|level|pool|slots|taken|free|tabs|tab (v:Nat)|tmap (v:Nat)|counts|memo|entries|handles|waits
 deriving DecidableEq
variable {R:Role->Prop}
abbrev Own:=Nat->Option Role
variable {o' o'' o1 o2:Own}
def Ab (o:Own)(w:Wd):Prop:=∀ k r,o k=some r->k<w.heap.size
structure Chg (R:Role->Prop)(o o':Own)(w w':Wd):Prop where
 os:w'.os=w.os
 tape:w'.tape=w.tape
 output:w'.output=w.output
 size:w.heap.size<=w'.heap.size
 block:∀ k,k<w.heap.size->(∀ r,o k=some r->¬ R r)->w'.heap[k]?=w.heap[k]?
 ext:∀ k r,o k=some r->o' k=some r
 new:∀ k,o' k≠o k->w.heap.size<=k/\∃ r,o' k=some r/\R r
section
variable {R':Role->Prop}{o:Own}{r:Role}
theorem Chg.refl (R:Role->Prop)(o:Own)(w:Wd):Chg R o o w w:=⟨rfl,rfl,rfl,WM _,fun _ _ _=>rfl,fun _ _ h=>h,fun _ h=>(h rfl).elim⟩
abbrev WU:=@Nat.le_trans
abbrev Xh:=@Nat.lt_of_lt_of_le
theorem Chg.trans (h:Chg R o o' w w')(h':Chg R o' o'' w' w''):Chg R o o'' w w'':=by
 refine⟨h'.os.trans h.os,h'.tape.trans h.tape,h'.output.trans h.output,WU h.size h'.size,fun k hk hr=>?_,fun k r hr=>h'.ext k r (h.ext k r hr),fun k hk=>?_⟩
 ·have g0:k<w'.heap.size:=Xh hk h.size;refine(h'.block k g0 fun q hq=>?_).trans (h.block k hk hr)
  by_cases e:o' k=o k
  . rw[e] at hq;exact hr q hq
  . have:=(h.new k e).1;omega
 ·by_cases e:o'' k=o' k
  . rw[e] at hk ⊢;exact h.new k hk
  . have:=h'.new k e;exact⟨WU h.size this.1,this.2⟩
theorem Chg.mono (h:Chg R o o' w w')(hR:∀ r,R r->R' r):Chg R' o o' w w' :=
 ⟨h.os,h.tape,h.output,h.size,fun k hk hr=>h.block k hk fun r hr' hh=>hr r hr' (hR r hh),h.ext,fun k hk=>⟨(h.new k hk).1,(h.new k hk).2.imp fun r hh=>⟨hh.1,hR r hh.2⟩⟩⟩
theorem Chg.drewN (h:Chg R o o' w w')(n:Nat):Chg R o o' w (w'.drewN n):=⟨h.os,h.tape,h.output,h.size,h.block,h.ext,h.new⟩
theorem Chg.alloc (h:Chg R o o' w w')(ob:Obj):Chg R o o' w (w'.alloc ob) :=
 ⟨h.os,h.tape,h.output,by simp;have:=h.size;omega,fun k hk hr=>(WT w' ob (Xh hk h.size)).trans (h.block k hk hr),h.ext,h.new⟩
abbrev YZ:=@Below.heap_setCell
theorem Chg.setCell (h:Chg R o o' w w'){p:Addr}{r:Role}(hp:o' p.block=some r)(hr:R r)(u:Value):Chg R o o' w (w'.setCell p u):=by
 refine⟨h.os,h.tape,h.output,by simp[World.setCell];exact h.size,fun k hk g0=>?_,h.ext,h.new⟩;have g1:k≠p.block:=by
  rintro rfl
  by_cases e:o' p.block=o p.block
  . rw[e] at hp;exact g0 r hp hr
  . have:=(h.new _ e).1;omega
 rw[YZ _ _ _ _ g1];exact h.block k hk g0
theorem Chg.setCell_new (h:Chg R o o' w w'){p:Addr}(hp:w.heap.size<=p.block)(u:Value):Chg R o o' w (w'.setCell p u):=by
 refine⟨h.os,h.tape,h.output,by simp[World.setCell];exact h.size,fun k hk g0=>?_,h.ext,h.new⟩;rw[YZ _ _ _ _ (by omega)];exact h.block k hk g0
theorem Chg.of_below (hb:Bw w w')(R:Role->Prop)(o:Own):Chg R o o w w' :=
 ⟨hb.os,hb.tape,hb.output,hb.size,fun k hk _=>hb.block k hk,fun _ _ h=>h,fun _ h=>(h rfl).elim⟩
def AB (o:Own)(b:Nat)(r:Role):Own:=fun k=>if k=b then some r else o k
theorem Br (o:Own)(b:Nat)(r:Role):AB o b r b=some r:=by simp[AB]
theorem CK {q:Role}(hlt:Ab o w)(hb:w.heap.size<=b)(h:o k=some q):AB o b r k=some q:=by
 have:=hlt k q h;simp only[AB,WO (show k≠b by omega)];exact h
theorem Chg.allocR (h:Chg R o o' w w')(hlt:Ab o' w')(ob:Obj)(hr:R r):Chg R o (AB o' w'.heap.size r) w (w'.alloc ob):=by
 have h2:=h.alloc ob;refine⟨h2.os,h2.tape,h2.output,h2.size,h2.block,fun k q hq=>CK hlt (WM _) (h.ext k q hq),fun k hk=>?_⟩
 by_cases e:k=w'.heap.size
 . subst e;exact⟨h.size,r,Br _ _ _,hr⟩
 . simp only[AB,WO e] at hk ⊢;exact h.new k hk
abbrev WV:=@World.size_alloc
theorem Ab.allocR (h:Ab o w)(ob:Obj)(r:Role):Ab (AB o w.heap.size r) (w.alloc ob):=by
 intro k q hq;simp only[WV]
 by_cases e:k=w.heap.size
 . omega
 . simp only[AB,WO e] at hq;have:=h k q hq;omega
theorem Ab.mono (h:Ab o w)(hs:w.heap.size<=w'.heap.size):Ab o w':=fun k r hr=>Xh (h k r hr) hs
theorem Chg.grown (h:Chg R o o' w w')(hg:w'.grownBy w'' row)(hrow:∀ g,row=some g->∃ r,o' g=some r/\R r):Chg R o o' w w'':=by
 refine h.trans ⟨hg.os,hg.tape,hg.output,hg.size,fun k hk hr=>hg.block k hk fun e=>?_,fun _ _ h=>h,fun _ h=>(h rfl).elim⟩;obtain⟨r,h1,h2⟩:=hrow k e.symm;exact hr r h1 h2
theorem Chg.same (h:Chg R o o' w w')(hlt:Ab o w){r:Role}(hb:o b=some r)(hr:¬ R r):w'.heap[b]?=w.heap[b]? :=
 h.block b (hlt b r hb) fun q hq=>by rw[hb] at hq;cases hq;exact hr
theorem Chg.alien (h:Chg R o o' w w')(hlt:b<w.heap.size)(hb:o b=none):w'.heap[b]?=w.heap[b]? :=
 h.block b hlt fun q hq=>by rw[hb] at hq;cases hq
theorem Chg.alien' (h:Chg R o o' w w')(hlt:b<w.heap.size)(hb:o b=none):o' b=none:=by
 by_cases e:o' b=o b
 . rw[e];exact hb
 . have:=(h.new b e).1;omega
theorem Chg.cell (h:Chg R o o' w w'){p:Addr}{v:Value}(hc:w.cell? p=some v)(hb:o p.block=none):w'.cell? p=some v :=
 (Xz (w:=w) (h.alien (YE w p hc) hb)).trans hc
structure RowR (o:Own)(w:Wd)(r:Role)(e:TypeId)(size:Nat)(v:Value)(n:Nat)(xs:List Value):Prop where
 len:xs.length=n*size
 ex:(v=.slice none 0 0/\n=0)\/∃ g cap cur,v=.slice (some ⟨g,0,none⟩) n cap/\o g=some r/\w.heap[g]?=some (.cells cur e (0,0))/\n<=cap/\cap<=maxLen/\cap*size<=cur.size/\cur.toList.take (n*size)=xs
variable {e:TypeId}{size:Nat}
theorem RowR.nil (o:Own)(w:Wd)(r:Role)(e:TypeId)(size:Nat):RowR o w r e size (.slice none 0 0) 0 []:=⟨by simp,.inl ⟨rfl,rfl⟩⟩
theorem RowR.keep (h:RowR o w r e size v n xs)(hk:∀ g,o g=some r->w'.heap[g]?=w.heap[g]?)(ho:∀ g,o g=some r->o' g=some r):RowR o' w' r e size v n xs:=by
 refine⟨h.len,h.ex.imp id ?_⟩;rintro⟨g,cap,cur,h1,h2,h3,rest⟩;exact⟨g,cap,cur,h1,ho g h2,(hk g h2).trans h3,rest⟩
theorem RowR.chg (h:RowR o w r e size v n xs)(hc:Chg R o o' w w')(hlt:Ab o w)(hr:¬ R r):RowR o' w' r e size v n xs :=
 h.keep (fun g hg=>hc.same hlt hg hr) (fun g hg=>hc.ext g r hg)
theorem RowR.shape (h:RowR o w r e size v n xs)(hn:0<n):∃ g cap,v=.slice (some ⟨g,0,none⟩) n cap/\o g=some r/\n<=cap/\cap<=maxLen:=by
 rcases h.ex with ⟨_,h0⟩|⟨g,cap,cur,h1,h2,_,h3,h4,_⟩
 . omega
 . exact⟨g,cap,h1,h2,h3,h4⟩
theorem RowR.slice (h:RowR o w r e size v n xs):∃ a cap,v=.slice a n cap/\n<=cap/\cap<=maxLen/\(a=none->cap=0)/\(∀ x,a=some x->∃ g,x=⟨g,0,none⟩/\o g=some r):=by
 rcases h.ex with ⟨h1,h0⟩|⟨g,cap,cur,h1,h2,_,h3,h4,_⟩
 . exact⟨none,0,by rw[h1,h0],by omega,by omega,fun _=>rfl,by simp⟩
 . exact⟨_,cap,h1,h3,h4,by simp,fun x hx=>⟨g,by cases hx;rfl,h2⟩⟩
abbrev WQ:=@cell_of_row
abbrev Yz:=@List.getElem?_take
theorem RowR.cell {g cap m:Nat}(h:RowR o w r e size (.slice (some ⟨g,0,none⟩) m cap) n xs)(k:Nat)(hk:k<xs.length):w.cell? ⟨g,k,none⟩=xs[k]?:=by
 rcases h.ex with ⟨h1,_⟩|⟨g',cap',cur,h1,_,h3,_,_,h4,h5⟩
 . cases h1
 ·cases h1;rw[WQ w g k cur e (0,0) h3];have:xs[k]?=(cur.toList.take (n*size))[k]?:=by rw[h5]
  rw[this,Yz,WR (by rw[<- h.len];exact hk)];simp
theorem RowR.frozen {g cap m:Nat}(h:RowR o w r e size (.slice (some ⟨g,0,none⟩) m cap) n xs)(k:Nat):w.frozen? ⟨g,k,none⟩=false:=by
 rcases h.ex with ⟨h1,_⟩|⟨g',cap',cur,h1,_,h3,_⟩
 . cases h1
 . cases h1;simp[World.frozen?,h3]
theorem RowR.owner {m:Nat}(h:RowR o w r e size (.slice (some ⟨g,0,none⟩) m cap) n xs):o g=some r:=by
 rcases h.ex with ⟨h1,_⟩|⟨g',cap',cur,h1,h2,_⟩
 . cases h1
 . cases h1;exact h2
abbrev Y1:=@Array.getElem?_modify
abbrev XP:=@if_true
theorem RowR.stored {m:Nat}(h:RowR o w r e size (.slice (some ⟨g,0,none⟩) m cap) n xs)(k:Nat)(u:Value) :
 RowR o (w.setCell ⟨g,k,none⟩ u) r e size (.slice (some ⟨g,0,none⟩) m cap) n (xs.set k u):=by
 refine⟨by rw[Xi];exact h.len,?_⟩;rcases h.ex with ⟨h1,_⟩|⟨g',cap',cur,h1,h2,h3,h4,h5,h6,h7⟩
 . cases h1
 ·cases h1;refine .inr ⟨g,cap,cur.setIfInBounds k u,rfl,h2,?_,h4,h5,by simpa using h6,?_⟩
  . simp only[World.setCell,Y1,XP,h3];rfl
  . rw[Array.toList_setIfInBounds,List.take_set,h7]
theorem RowR.setCell_other (h:RowR o w r e size v n xs){p:Addr}(hp:o p.block≠some r)(u:Value):RowR o (w.setCell p u) r e size v n xs :=
 h.keep (fun g hg=>YZ _ _ _ _ (by rintro rfl;exact hp hg)) (fun _ h=>h)
abbrev X7:=@Nat.mul_le_mul_right
abbrev Yk:=@List.length_take
theorem RowR.shrink {m m' cap':Nat}(h:RowR o w r e size (.slice (some ⟨g,0,none⟩) m cap) n xs)(hm:m'<=n)(hc:cap'<=cap)(hmc:m'<=cap') :
 RowR o w r e size (.slice (some ⟨g,0,none⟩) m' cap') m' (xs.take (m'*size)):=by
 have g0:m'*size<=n*size:=X7 _ hm;refine⟨by rw[Yk,h.len];omega,?_⟩;rcases h.ex with ⟨h1,_⟩|⟨g',cap0,cur,h1,h2,h3,h4,h5,h6,h7⟩
 . cases h1
 . cases h1;refine .inr ⟨g,cap',cur,rfl,h2,h3,hmc,by omega,WU (X7 _ hc) h6,?_⟩;rw[<- h7,List.take_take];congr 1;omega
abbrev WY:=@List.length_append
abbrev XV:=@Nat.add_mul
abbrev WN:=@heap_alloc_new
abbrev XQ:=@List.size_toArray
abbrev Xf:=@List.append_assoc
abbrev Xt:=@run_underlying
abbrev XK:=@List.nil_append
abbrev Zr:=@List.length_drop
theorem RowR.append (h:RowR o w r e size v n xs)(hlt:Ab o w)(t ty:TypeId)(i:TypeInfo)(z:Value)(bytes:Nat)(ht:P.underlying t=some (.slice e))(hi:P.info? e=some i)(hz:i.zero=some z)
 (hsize:i.size=size) (hby:i.bytes=bytes) (hzs:z.cells.size=size) (hsz:0<size)
 (a:Addr) (m c:Nat) (news:List Value) (hl:news.length=m*size) (hnews:∀ j u,news[j]?=some u->w.cell? (a.add j)=some u) (h1:∀ u∈news,u.oneCell'=true)
 (h63:n+m<=maxLen) (hbytes:(n+m)*bytes<=140737488355328) :
 ∃ v' w' o',(Builtin.append_ #[t,t] ty #[v,.slice (some a) m c]).run P w=.ok v' w'/\RowR o' w' r e size v' (n+m) (xs++news)/\Chg (· = r) o o' w w'/\Ab o' w':=by
 subst hsize;subst hby;have g9:n+m<=9223372036854775807:=by simp only[maxLen] at h63;omega
 have g1:(xs++news).length=(n+m)*i.size:=by rw[WY,h.len,hl,XV]
 have grown:∀ (old:Nat),
  RowR (AB o w.heap.size r) (w.drew.alloc (.cells (xs.toArray++news.toArray++Builtin.zeroCells z.cells (grownCap w (n+m) old e-(n+m))) e)) r e i.size
   (.slice (some ⟨w.heap.size,0,none⟩) (n+m) (grownCap w (n+m) old e)) (n+m) (xs++news) /\
  Chg (· = r) o (AB o w.heap.size r) w (w.drew.alloc (.cells (xs.toArray++news.toArray++Builtin.zeroCells z.cells (grownCap w (n+m) old e-(n+m))) e)) /\
  Ab (AB o w.heap.size r) (w.drew.alloc (.cells (xs.toArray++news.toArray++Builtin.zeroCells z.cells (grownCap w (n+m) old e-(n+m))) e)):=by
  intro old;have ga:=grownCap_ge w (n+m) old e;have g3:grownCap w (n+m) old e<=maxLen:=grownCap_le_maxLen w (n+m) old e h63;refine⟨⟨g1,.inr ⟨w.heap.size,_,_,rfl,Br _ _ _,WN w.drew _,ga,g3,?_,?_⟩⟩,(((Chg.refl (· = r) o w).drewN 1).allocR (w':=w.drewN 1) hlt _ rfl),Ab.allocR (w:=w.drewN 1) hlt _ r⟩
  . simp only[Array.size_append,XQ,size_zeroCells,hzs,h.len,hl,<- XV];exact X7 _ (by omega)
  . simp only[Array.toList_append,Xf];rw[<- Xf,<- g1];exact List.take_left
 rcases h.ex with ⟨rfl,rfl⟩|⟨g,cap,cur,rfl,g6,hg,gc,g3,gb,g4⟩
 ·have hx:xs=[]:=Yg (by simpa using h.len);subst hx
  by_cases hm:m=0
  . subst hm;have hn:news=[]:=Yg (by simpa using hl);subst hn;refine⟨.slice none 0 0,w,o,?_,RowR.nil o w r e i.size,Chg.refl _ _ _,hlt⟩;simp[Builtin.append_,Xt ht,sizeOf,typeInfo,hi,Builtin.lenOf,Builtin.firstCells,loadCells,loadCellsFrom]
  . have hr:=run_append_nil (P:=P) w t ty e i z ht hi hz a m c news hl hnews (by omega) (by omega) (by have hb:=hbytes;simp only[Xw] at hb;omega);have g2:=grown 0;simp only[Xw,XK,Array.empty_append] at g2 ⊢;exact⟨_,_,_,hr,g2⟩
 ·by_cases g0:n+m<=cap
  ·have g7:n*i.size+news.length<=cur.size:=by rw[hl,<- XV];exact WU (X7 _ g0) gb
   have hr:=run_append_room (P:=P) w t ty e i ht hi g n cap cur hg a m c news hl hnews h1 g0 g7;refine⟨_,_,o,hr,⟨g1,.inr ⟨g,cap,_,rfl,g6,setRow_heap w g cur _ e _ hg,g0,g3,?_,?_⟩⟩,⟨rfl,rfl,rfl,by simp,fun k _ hk=>setRow_other w g k _ (by rintro rfl;exact hk r g6 rfl),fun _ _ h=>h,fun _ h=>(h rfl).elim⟩,fun k q hq=>by have:=hlt k q hq;simpa using this⟩
   . simp only[XQ,WY,Yk,Zr,Array.length_toList];omega
   . rw[g4,<- g1];exact List.take_left
  ·have g5:∀ j u,xs[j]?=some u->w.cell? ((⟨g,0,none⟩:Addr).add j)=some u:=by
    intro j u hu;have g8:(⟨g,0,none⟩:Addr).add j=⟨g,j,none⟩:=by unfold Addr.add;split<;>simp_all
    have hj:j<xs.length:=by
     rcases Xe j xs.length with h'|h'
     . exact h'
     . rw[Xb h'] at hu;cases hu
    rw[g8,h.cell j hj];exact hu
   have hr:=run_append_grow (P:=P) w t ty e i z ht hi hz ⟨g,0,none⟩ n cap xs h.len g5 a m c news hl hnews (by omega) (by omega) (growslice_fits (by omega) hbytes);have g2:=grown cap;exact⟨_,_,_,hr,g2⟩
end
abbrev Yn:=@List.flatMap_cons
abbrev Xm:=@List.length_cons
theorem BP {α:Type}(f:α->List Value)(s:Nat)(hf:∀ x,(f x).length=s):∀ (l:List α),(l.flatMap f).length=l.length*s
 | []=>by simp
 | x::l=>by rw[Yn,WY,hf,BP f s hf l,Xm,XV];omega
abbrev Xj:=@List.getElem?_append_left
abbrev Xu:=@List.getElem?_append_right
theorem DL {α:Type}(f:α->List Value)(s:Nat)(hf:∀ x,(f x).length=s):∀ (l:List α) (k j:Nat) (x:α),l[k]?=some x->j<s->(l.flatMap f)[k*s+j]?=(f x)[j]?
 | [],k,j,x,h,_=>by simp at h
 | y::l,0,j,x,h,hj=>by
   simp at h;subst h
   rw[Yn,Xj (by rw[hf];omega)];congr 1;omega
 | y::l,k+1,j,x,h,hj=>by
   simp at h;rw[Yn,Xu (by rw[hf,XV];omega),hf,<- DL f s hf l k j x h hj];congr 1;rw[XV];omega
abbrev Yl:=@List.ext_getElem
abbrev XR:=@List.length_replicate
theorem OI {o:Oper}(hgd:o.guard=none)(l c:Operand)
 (ho:o.op=.makeSlice 22 l c) (base:Nat) (w0:Wd) (L:Int) (n:Nat) (hl:a.eval l=.int .i64 L) (hc:a.eval c=.int .i64 L) (hL:L=n) (hn:n<1099511627776)
 (hbase:base<=wr.heap.size) (hb:Below base w0 wr)
 (h:∀ g w',OwnI w' base (.slice (some ⟨g,0,none⟩) n n) (List.replicate n 0)->Below base w0 w'->base<=w'.heap.size->CJ none wr w'->base<=g ->
  wpList prog ops Q rest (a.put o.dst (.slice (some ⟨g,0,none⟩) n n)) w') :
 wpList prog ops Q (o::rest) a wr:=by
 obtain⟨i,hi,hz,g0,g1⟩:=Y9 El;refine wpList_make_full wr hgd l c 22 ho base 3 i (.int .i64 0) 1 underlying22 hi hz g0 .i64 .i64 L L n hl hc hL hL (by rw[g1];omega) (by unfold maxLen;omega) hbase ?_;intro w' h1 h2;refine h wr.heap.size w' ?_ (hb.grown h2 hbase (by simp)) (by have:=h2.size;omega) (F5 h2) hbase;unfold OwnI;have e1:As (List.replicate n 0)=(madeCells (Value.int .i64 0).cells (n*1)).toList:=by
  simp[As,madeCells,Value.cells];apply Yl
  . simp
  . intro j h3 h4;simp[Nat.mod_one]
 rw[XR,e1];exact h1
abbrev Zp:=@List.set_append_right
theorem OJ (k n:Nat)(h:k<n):(iota k++List.replicate (n-k) 0).set k (k:Int)=iota (k+1)++List.replicate (n-(k+1)) 0:=by
 have e:n-k=(n-(k+1))+1:=by omega
 rw[e,List.replicate_succ,Zp _ _ (by simp[F7]),F7,Nat.sub_self,List.set_cons_zero,OD,Xf];rfl
theorem OK (n:Int)(w:Wd) :
 Calls prog 121 #[.int .i64 n] w fun e w'=>∃ v,e=.returned v/\OwnI w' w.heap.size v (EN n)/\Bw w w':=by
 obtain⟨L,hL⟩:=Ex (min n.toNat 64:Nat);have g6:L<=64:=by omega
 have HF:Hq (EN n=iota L):=by unfold EN;rw[hL];rfl
 have HL:=Hd hL;clear hL
 go_enter func121,ntmps121
 go_wp2_with (at_make;refine OI rfl _ _ rfl w.heap.size w _ L rfl rfl (by have:=HL.o;omega) (by omega) (WM _) (Xd _ _) ?_;intro g w1 g2 g5 hs1 g7 g4)
 all_goals
  go_loopw [11] (fun i wr=>∃ k:Nat,k<=L/\i=.int .i64 k/\OwnI wr w.heap.size (.slice (some ⟨g,0,none⟩) L L) (iota k++List.replicate (L-k) 0)/\Bw w wr) (fun i _=>L-(intOf i).toNat)
  case atStart=>exact⟨0,by omega,rfl,by simpa [iota] using g2,g5⟩
  case round =>
   obtain⟨k,hk,rfl,g0,g1⟩:=hrel
   by_cases g3:k<L
   ·have q0:=g0.cell k (by simp[F7];omega);have p0:=g0.frozen k
    go_wp2
    go_roundw
    case rel=>exact⟨k+1,by omega,by go_num,by rw[<- OJ k L g3];exact g0.stored k _,g1.setCell g4 _⟩
    case measure=>simp[intOf];omega
   ·obtain rfl:k=L:=by omega
    go_wp2
    go_ret;exact⟨_,rfl,by rw[HF.o];simpa using g0,g1⟩
abbrev BF:=(Nat->Bool)->Bool
variable {V:Nat->BF}
structure BN where
 v:Nat
 lo:Nat
 hi:Nat
variable {N:Nat->Option BN}
def ef (V:Nat->BF)(e:Nat):BF:=fun ρ=>(e%2 == 1) != V (e/2) ρ
def iteF (v:Nat)(h l:BF):BF:=fun ρ=>if ρ v then h ρ else l ρ
def okE (nodes:Nat->Option BN)(e:Nat):Prop:=e/2=0\/∃ b,nodes (e/2)=some b
def lvE (n:Nat)(lev:Nat->Nat)(nodes:Nat->Option BN)(e:Nat):Nat :=
 match nodes (e/2) with
 | some b=>lev b.v
 | none=>n
structure Dag (n:Nat)(lev:Nat->Nat)(nodes:Nat->Option BN)(V:Nat->BF):Prop where
 one:∀ ρ,V 0 ρ=true
 none0:nodes 0=none
 var:∀ id b,nodes id=some b->b.v<n
 inj:∀ u v,u<n->v<n->lev u=lev v->u=v
 lt:∀ v,v<n->lev v<n
 okLo:∀ id b,nodes id=some b->okE nodes b.lo
 okHi:∀ id b,nodes id=some b->okE nodes b.hi
 lvLo:∀ id b,nodes id=some b->lev b.v<lvE n lev nodes b.lo
 lvHi:∀ id b,nodes id=some b->lev b.v<lvE n lev nodes b.hi
 reg:∀ id b,nodes id=some b->b.hi%2=0
 ne:∀ id b,nodes id=some b->b.lo≠b.hi
 uniq:∀ id id' b,nodes id=some b->nodes id'=some b->id=id'
 eqn:∀ id b,nodes id=some b->V id=iteF b.v (ef V b.hi) (ef V b.lo)
section
variable {lev:Nat->Nat}{nodes:Nat->Option BN}
abbrev XN:=@Nat.mod_two_eq_zero_or_one
theorem OL (V:Nat->BF)(e:Nat)(ρ:Nat->Bool):ef V (e ^^^ 1) ρ = !ef V e ρ:=by
 have h1:(e ^^^ 1)/2=e/2:=by
  have:=Nat.shiftRight_xor_distrib (a:=e) (b:=1) (i:=1);simpa [Nat.shiftRight_eq_div_pow] using this
 have h2:(e ^^^ 1)%2=1-e%2:=by
  have:=Nat.xor_mod_two_pow (a:=e) (b:=1) (n:=1);simp at this;rw[this];rcases XN e with h|h<;>rw[h]<;>rfl
 unfold ef;rw[h1,h2];rcases XN e with h|h<;>rw[h]<;>simp
theorem Dag.lvE_le (h:Dag n lev nodes V)(e:Nat):lvE n lev nodes e<=n:=by
 unfold lvE;split
 . rename_i b hb;exact Nat.le_of_lt (h.lt _ (h.var _ _ hb))
 . exact WM _
theorem Dag.indep (h:Dag n lev nodes V):∀ (k e:Nat),n-lvE n lev nodes e<=k->okE nodes e->∀ ρ ρ':Nat->Bool,(∀ v,v<n->lvE n lev nodes e<=lev v->ρ v=ρ' v)->ef V e ρ=ef V e ρ':=by
 intro k
 induction k with
 | zero =>
   intro e hk ho ρ ρ' _;have h0:e/2=0:=by
    rcases ho with ho|⟨b,hb⟩
    . exact ho
    . exfalso;have h1:=h.lt _ (h.var _ _ hb);simp only[lvE,hb] at hk;omega
   simp only[ef,h0,h.one]
 | succ k ih =>
   intro e hk ho ρ ρ' g0;rcases ho with ho|⟨b,hb⟩
   . simp only[ef,ho,h.one]
   ·have hl:lvE n lev nodes e=lev b.v:=by simp only[lvE,hb]
    rw[hl] at hk g0;have hv:=h.var _ _ hb;have e1:ρ b.v=ρ' b.v:=g0 _ hv (WM _);have e2:ef V b.hi ρ=ef V b.hi ρ':=ih b.hi (by have:=h.lvHi _ _ hb;omega) (h.okHi _ _ hb) ρ ρ' (fun v g1 hle=>g0 v g1 (by have:=h.lvHi _ _ hb;omega));have e3:ef V b.lo ρ=ef V b.lo ρ':=ih b.lo (by have:=h.lvLo _ _ hb;omega) (h.okLo _ _ hb) ρ ρ' (fun v g1 hle=>g0 v g1 (by have:=h.lvLo _ _ hb;omega));have:V (e/2) ρ=V (e/2) ρ':=by rw[h.eqn _ _ hb];simp only[iteF,e1,e2,e3]
    simp only[ef,this]
theorem Dag.top (h:Dag n lev nodes V):∀ (k id:Nat),n-lvE n lev nodes (2*id)<=k->(id=0\/∃ b,nodes id=some b)->V id (fun _=>true)=true:=by
 intro k
 induction k with
 | zero =>
   intro id hk ho;rcases ho with rfl|⟨b,hb⟩
   . exact h.one _
   ·exfalso;have h1:=h.lt _ (h.var _ _ hb);have:2*id/2=id:=by omega
    simp only[lvE,this,hb] at hk;omega
 | succ k ih =>
   intro id hk ho;rcases ho with rfl|⟨b,hb⟩
   . exact h.one _
   ·have h2:2*id/2=id:=by omega
    have hr:=h.reg _ _ hb;have hd:2*(b.hi/2)=b.hi:=by omega
    simp only[lvE,h2,hb] at hk;have hl:=h.lvHi _ _ hb;have:=ih (b.hi/2) (by rw[hd];omega) (h.okHi _ _ hb);rw[h.eqn _ _ hb];simp only[iteF,XP,ef,hr,this];rfl
def upd (ρ:Nat->Bool)(v:Nat)(x:Bool):Nat->Bool:=fun u=>if u=v then x else ρ u
theorem CL (ρ:Nat->Bool)(v:Nat)(x:Bool):upd ρ v x v=x:=by simp[upd]
theorem F8 (ρ:Nat->Bool){v u:Nat}(x:Bool)(h:u≠v):upd ρ v x u=ρ u:=by simp[upd,h]
theorem Dag.indep_var (h:Dag n lev nodes V){v:Nat}(ho:okE nodes e)(hl:lev v<lvE n lev nodes e)(ρ:Nat->Bool)(x:Bool):ef V e (upd ρ v x)=ef V e ρ :=
 h.indep _ e (WM _) ho _ _ fun u _ hle=>F8 ρ x (by rintro rfl;omega)
theorem Dag.cofs (h:Dag n lev nodes V){b:BN}(hb:nodes id=some b)(ρ:Nat->Bool):V id (upd ρ b.v true)=ef V b.hi ρ/\V id (upd ρ b.v false)=ef V b.lo ρ:=by
 rw[h.eqn _ _ hb];simp only[iteF,CL,XP,h.indep_var (h.okHi _ _ hb) (h.lvHi _ _ hb),h.indep_var (h.okLo _ _ hb) (h.lvLo _ _ hb)];simp
theorem Dq {b:BN}(h:nodes id=some b):okE nodes (2*id):=.inr ⟨b,by rw[show 2*id/2=id from by omega];exact h⟩
abbrev YP:=@Nat.lt_trichotomy
theorem Dag.canonK (h:Dag n lev nodes V):∀ (k e e':Nat),n-lvE n lev nodes e<=k->n-lvE n lev nodes e'<=k->okE nodes e->okE nodes e'->ef V e=ef V e'->e=e':=by
 intro k
 induction k with
 | zero =>
   intro e e' hk g1 ho g2 g3;have z:∀ e,n-lvE n lev nodes e<=0->okE nodes e->e/2=0:=by
    intro e hk ho;rcases ho with ho|⟨b,hb⟩
    . exact ho
    . exfalso;have h1:=h.lt _ (h.var _ _ hb);simp only[lvE,hb] at hk;omega
   have h1:=z e hk ho;have h2:=z e' g1 g2;have:=congrFun g3 (fun _=>true);simp only[ef,h1,h2,h.one] at this;have hp:e%2=e'%2:=by
    rcases XN e with a|a<;>rcases XN e' with b|b<;>rw[a,b] at this<;>first|omega|simp at this
   omega
 | succ k ih =>
   intro e e' hk g1 ho g2 g3;have t:∀ e,okE nodes e->V (e/2) (fun _=>true)=true:=fun e ho=>h.top _ _ (WM _) ho
   have hp:e%2=e'%2:=by
    have:=congrFun g3 (fun _=>true);simp only[ef,t e ho,t e' g2] at this;rcases XN e with a|a<;>rcases XN e' with b|b<;>rw[a,b] at this<;>first|omega|simp at this
   have hV:V (e/2)=V (e'/2):=by
    funext ρ;have:=congrFun g3 ρ;simp only[ef,hp] at this;revert this;cases V (e/2) ρ<;>cases V (e'/2) ρ<;>cases (e'%2 == 1)<;>simp
   have nohang:∀ (id:Nat) (b:BN),nodes id=some b->n-lev b.v<=k+1->¬ (∀ ρ x,V id (upd ρ b.v x)=V id ρ):=by
    intro id b hb gc g5;refine h.ne _ _ hb (ih b.lo b.hi (by have:=h.lvLo _ _ hb;omega) (by have:=h.lvHi _ _ hb;omega) (h.okLo _ _ hb) (h.okHi _ _ hb) ?_);funext ρ;have:=h.cofs hb ρ;rw[<- this.1,<- this.2,g5,g5]
   have key:e/2=e'/2:=by
    rcases ho with h0|⟨b,hb⟩
    ·rcases g2 with g6|⟨b',g0⟩
     . omega
     ·exfalso;simp only[lvE,g0] at g1;refine nohang _ _ g0 g1 fun ρ x=>?_
      rw[<- hV,h0,h.one,h.one]
    ·rcases g2 with g6|⟨b',g0⟩
     ·exfalso;simp only[lvE,hb] at hk;refine nohang _ _ hb hk fun ρ x=>?_
      rw[hV,g6,h.one,h.one]
     ·have hl:lvE n lev nodes (2*(e/2))=lev b.v:=by
       have:2*(e/2)/2=e/2:=by omega
       simp only[lvE,this,hb]
      have g9:lvE n lev nodes (2*(e'/2))=lev b'.v:=by
       have:2*(e'/2)/2=e'/2:=by omega
       simp only[lvE,this,g0]
      have V2:∀ id,ef V (2*id)=V id:=by
       intro id;funext ρ
       have h1:2*id/2=id:=by omega
       have h2:2*id%2=0:=by omega
       simp[ef,h1,h2]
      simp only[lvE,hb] at hk;simp only[lvE,g0] at g1;rcases YP (lev b.v) (lev b'.v) with g8|g7|ga
      ·exfalso;refine nohang _ _ hb hk fun ρ x=>?_
       have:=h.indep_var (e:=2*(e'/2)) (v:=b.v) (Dq g0) (by rw[g9];exact g8) ρ x;rw[V2] at this;rw[hV];exact this
      ·have g4:b.v=b'.v:=h.inj _ _ (h.var _ _ hb) (h.var _ _ g0) g7;have gb:b.lo=b'.lo:=by
        refine ih _ _ (by have:=h.lvLo _ _ hb;omega) (by have:=h.lvLo _ _ g0;omega) (h.okLo _ _ hb) (h.okLo _ _ g0) ?_;funext ρ;rw[<- (h.cofs hb ρ).2,<- (h.cofs g0 ρ).2,hV,g4]
       have gd:b.hi=b'.hi:=by
        refine ih _ _ (by have:=h.lvHi _ _ hb;omega) (by have:=h.lvHi _ _ g0;omega) (h.okHi _ _ hb) (h.okHi _ _ g0) ?_;funext ρ;rw[<- (h.cofs hb ρ).1,<- (h.cofs g0 ρ).1,hV,g4]
       have:b=b':=by cases b;cases b';simp_all
       subst this;exact h.uniq _ _ _ hb g0
      ·exfalso;refine nohang _ _ g0 g1 fun ρ x=>?_
       have:=h.indep_var (e:=2*(e/2)) (v:=b'.v) (Dq hb) (by rw[hl];exact ga) ρ x;rw[V2] at this;rw[<- hV];exact this
   omega
theorem Dag.canon (h:Dag n lev nodes V){e':Nat}(ho:okE nodes e)(ho':okE nodes e')(heq:ef V e=ef V e'):e=e' :=
 h.canonK n e e' (by omega) (by omega) ho ho' heq
theorem Dag.canon_iff (h:Dag n lev nodes V){e':Nat}(ho:okE nodes e)(ho':okE nodes e'):ef V e=ef V e'↔e=e' :=
 ⟨h.canon ho ho',fun e=>by rw[e]⟩
theorem Dag.ef0 (h:Dag n lev nodes V):ef V 0=fun _=>true:=by funext ρ;simp[ef,h.one]
theorem Dag.ef1 (h:Dag n lev nodes V):ef V 1=fun _=>false:=by funext ρ;simp[ef,h.one]
theorem OM (h:okE nodes e):okE nodes (e ^^^ 1):=by
 have h1:(e ^^^ 1)/2=e/2:=by
  have:=Nat.shiftRight_xor_distrib (a:=e) (b:=1) (i:=1);simpa [Nat.shiftRight_eq_div_pow] using this
 unfold okE at h ⊢;rw[h1];exact h
def addN (nodes:Nat->Option BN)(id:Nat)(b:BN):Nat->Option BN:=fun i=>if i=id then some b else nodes i
def addV (V:Nat->BF)(id:Nat)(b:BN):Nat->BF:=fun i=>if i=id then iteF b.v (ef V b.hi) (ef V b.lo) else V i
theorem BQ (id:Nat)(b:BN):addN nodes id b id=some b:=by simp[addN]
theorem Bc (b:BN)(h:i≠id):addN nodes id b i=nodes i:=by simp[addN,h]
theorem GU {b x:BN}(hf:nodes id=none)(h:nodes i=some x):addN nodes id b i=some x:=by
 rw[Bc _ (by rintro rfl;rw[hf] at h;cases h)];exact h
theorem F9 {b:BN}(hf:nodes id=none)(h:okE nodes e):okE (addN nodes id b) e:=by
 rcases h with h|⟨x,h⟩
 . exact .inl h
 . exact .inr ⟨x,GU hf h⟩
abbrev X1:=@Ne.symm
theorem ON {b:BN}(hf:nodes id=none)(hid:id≠0)(h:okE nodes e):lvE n lev (addN nodes id b) e=lvE n lev nodes e:=by
 unfold lvE;rcases h with h|⟨x,h⟩
 . rw[h,Bc _ (X1 hid)]
 . rw[GU hf h,h]
theorem OO {b:BN}(hf:nodes id=none)(hid:id≠0)(h:okE nodes e):ef (addV V id b) e=ef V e:=by
 have:e/2≠id:=by
  rcases h with h|⟨x,h⟩
  . omega
  . rintro rfl;rw[hf] at h;cases h
 funext ρ;simp only[ef,addV,WO this]
abbrev XL:=@Option.some.inj
theorem Dag.add (h:Dag n lev nodes V){b:BN}(hf:nodes id=none)(hid:id≠0)(hv:b.v<n)(hlo:okE nodes b.lo)(hhi:okE nodes b.hi)
 (llo:lev b.v<lvE n lev nodes b.lo) (lhi:lev b.v<lvE n lev nodes b.hi) (hr:b.hi%2=0) (hne:b.lo≠b.hi) (hnew:∀ i,nodes i≠some b) :
 Dag n lev (addN nodes id b) (addV V id b):=by
 have cs:∀ i x,addN nodes id b i=some x->(i=id/\x=b)\/(i≠id/\nodes i=some x):=by
  intro i x hx
  by_cases e:i=id
  . subst e;rw[BQ] at hx;exact .inl ⟨rfl,(XL hx).symm⟩
  . rw[Bc _ e] at hx;exact .inr ⟨e,hx⟩
 have L:∀ e,okE nodes e->lvE n lev (addN nodes id b) e=lvE n lev nodes e:=fun e ho=>ON hf hid ho
 have F:∀ e,okE nodes e->ef (addV V id b) e=ef V e:=fun e ho=>OO hf hid ho
 refine⟨fun ρ=>?_,?_,?_,h.inj,h.lt,?_,?_,?_,?_,?_,?_,?_,?_⟩
 . simp only[addV,WO (X1 hid),h.one]
 . rw[Bc _ (X1 hid)];exact h.none0
 ·intro i x hx;rcases cs i x hx with ⟨_,rfl⟩|⟨_,hx⟩
  . exact hv
  . exact h.var _ _ hx
 ·intro i x hx;rcases cs i x hx with ⟨_,rfl⟩|⟨_,hx⟩
  . exact F9 hf hlo
  . exact F9 hf (h.okLo _ _ hx)
 ·intro i x hx;rcases cs i x hx with ⟨_,rfl⟩|⟨_,hx⟩
  . exact F9 hf hhi
  . exact F9 hf (h.okHi _ _ hx)
 ·intro i x hx;rcases cs i x hx with ⟨_,rfl⟩|⟨_,hx⟩
  . rw[L _ hlo];exact llo
  . rw[L _ (h.okLo _ _ hx)];exact h.lvLo _ _ hx
 ·intro i x hx;rcases cs i x hx with ⟨_,rfl⟩|⟨_,hx⟩
  . rw[L _ hhi];exact lhi
  . rw[L _ (h.okHi _ _ hx)];exact h.lvHi _ _ hx
 ·intro i x hx;rcases cs i x hx with ⟨_,rfl⟩|⟨_,hx⟩
  . exact hr
  . exact h.reg _ _ hx
 ·intro i x hx;rcases cs i x hx with ⟨_,rfl⟩|⟨_,hx⟩
  . exact hne
  . exact h.ne _ _ hx
 ·intro i j x hx hy;rcases cs i x hx with ⟨e1,e⟩|⟨_,g1⟩
  ·rcases cs j x hy with ⟨e2,_⟩|⟨_,g0⟩
   . rw[e1,e2]
   . subst e;exact absurd g0 (hnew _)
  ·rcases cs j x hy with ⟨_,e⟩|⟨_,g0⟩
   . subst e;exact absurd g1 (hnew _)
   . exact h.uniq _ _ _ g1 g0
 ·intro i x hx;rcases cs i x hx with ⟨rfl,rfl⟩|⟨g2,hx⟩
  . rw[F _ hlo,F _ hhi];simp only[addV,XP]
  . rw[F _ (h.okLo _ _ hx),F _ (h.okHi _ _ hx)];simp only[addV,WO g2];exact h.eqn _ _ hx
theorem Dag.restrict (h:Dag n lev nodes V)(nodes':Nat->Option BN)(hsub:∀ i b,nodes' i=some b->nodes i=some b)
 (hlo:∀ i b,nodes' i=some b->okE nodes' b.lo/\okE nodes' b.hi):Dag n lev nodes' V:=by
 have h0:nodes' 0=none:=by
  cases e:nodes' 0 with
  | none=>rfl
  | some b=>have:=hsub _ _ e;rw[h.none0] at this;cases this
 have L:∀ e,okE nodes' e->lvE n lev nodes' e=lvE n lev nodes e:=by
  intro e ho;unfold lvE;rcases ho with ho|⟨x,ho⟩
  . rw[ho,h0,h.none0]
  . rw[ho,hsub _ _ ho]
 exact⟨h.one,h0,fun i b hb=>h.var i b (hsub _ _ hb),h.inj,h.lt,fun i b hb=>(hlo i b hb).1,fun i b hb=>(hlo i b hb).2,
  fun i b hb=>by rw[L _ (hlo i b hb).1];exact h.lvLo i b (hsub _ _ hb),fun i b hb=>by rw[L _ (hlo i b hb).2];exact h.lvHi i b (hsub _ _ hb),
  fun i b hb=>h.reg i b (hsub _ _ hb),fun i b hb=>h.ne i b (hsub _ _ hb),fun i j b hi hj=>h.uniq i j b (hsub _ _ hi) (hsub _ _ hj),fun i b hb=>h.eqn i b (hsub _ _ hb)⟩
end
theorem Ke (e:Nat):(e ^^^ 1)/2=e/2:=by
 have:=Nat.shiftRight_xor_distrib (a:=e) (b:=1) (i:=1);simpa [Nat.shiftRight_eq_div_pow] using this
theorem OP (h:e<2*n):e ^^^ 1<2*n:=by have:=Ke e;omega
theorem OQ (e:Nat)(he:e<4611686018427387904):bits .xor .i64 (e:Int) 1=((e ^^^ 1:Nat):Int):=by
 have hx:e ^^^ 1<4611686018427387904:=OP (n:=2305843009213693952) (by omega);have ea:BitVec.ofInt 64 ((e:Nat):Int)=BitVec.ofNat 64 e:=BitVec.ofInt_ofNat 64 e;have eb:BitVec.ofInt 64 1=BitVec.ofNat 64 1:=rfl;have key:bits .xor .i64 (e:Int) 1=IntKind.i64.wrap (((BitVec.ofInt 64 ((e:Nat):Int)) ^^^ (BitVec.ofInt 64 1)).toNat:Nat):=rfl;rw[key,ea,eb,BitVec.toNat_xor,BitVec.toNat_ofNat,BitVec.toNat_ofNat,Nat.mod_eq_of_lt (by omega),Nat.mod_eq_of_lt (by omega),IntKind.wrap_i64];omega
def eMax:Nat:=4611686018427387904
def enot (e:Nat):Nat:=e ^^^ 1
def eflip (e:Nat)(b:Bool):Nat:=if b then enot e else e
def enode (e:Nat):Nat:=e/2
def eneg (e:Nat):Bool:=e%2 == 1
theorem Dr (e:Nat):enot e/2=e/2:=Ke e
theorem Db (e:Nat)(b:Bool):eflip e b/2=e/2:=by unfold eflip;(split;· exact Dr e);rfl
theorem FA (e:Nat):enot e%2=1-e%2:=by
 unfold enot;have:=Nat.xor_mod_two_pow (a:=e) (b:=1) (n:=1);simp at this;rw[this];rcases XN e with h|h<;>rw[h]<;>rfl
theorem Kf (e:Nat):enot e=if e%2=0 then e+1 else e-1:=by
 have h1:=Dr e;have h2:=FA e;split<;>omega
theorem Kg (e:Nat):enot (enot e)=e:=by
 have h1:=Kf e;have h2:=Kf (enot e);have h3:=FA e;split at h2<;>split at h1<;>omega
theorem Ds (V:Nat->BF)(e:Nat)(ρ:Nat->Bool):ef V (enot e) ρ = !ef V e ρ:=OL V e ρ
theorem Cu (V:Nat->BF)(e:Nat)(b:Bool)(ρ:Nat->Bool):ef V (eflip e b) ρ=(b != ef V e ρ):=by
 unfold eflip;cases b
 . simp
 . simp[Ds]
theorem GV (h:okE N e):okE N (enot e):=OM h
theorem Dc {b:Bool}(h:okE N e):okE N (eflip e b):=by unfold eflip;(split;· exact GV h);exact h
theorem FB (e:Nat)(w:Wd)(he:e<eMax) :
 Calls prog 67 #[.int .i64 e] w (Sm (.int .i64 (enot e:Nat)) w):=by
 have hb:=OQ e he
 go_enter func67,ntmps67
 go_wp2
 go_ret;exact⟨rfl,rfl⟩
theorem Ch (e:Nat)(b:Bool)(w:Wd)(he:e<eMax) :
 Calls prog 146 #[.int .i64 e,.bool b] w (Sm (.int .i64 (eflip e b:Nat)) w):=by
 cases b
 ·go_enter func146,ntmps146
  go_wp2
  go_ret;exact⟨rfl,rfl⟩
 ·go_enter func146,ntmps146
  go_wp2_with fail;refine(FB e _ he).mono ?_;rintro x w' ⟨rfl,rfl⟩;go_wp2_with fail;go_ret;exact⟨rfl,rfl⟩
theorem B7 (e:Nat)(w:Wd)(he:e<eMax) :
 Calls prog 142 #[.int .i64 e] w (Sm (.int .i64 (enode e:Nat)) w):=by
 unfold eMax at he;have hm:max (e:Int) 0=e:=by omega
 have hd:(e:Int).tdiv 2=(e:Int)/2:=Int.tdiv_eq_ediv_of_nonneg (by omega);have HX:Hq (((enode e:Nat):Int)=(e:Int)/2):=by show _=_;unfold enode;omega
 go_enter func142,ntmps142
 go_wp2
 go_ret;exact⟨GQ HX.o.symm,rfl⟩
abbrev YU:=@Int.tmod_eq_emod_of_nonneg
theorem Dt (e:Nat)(w:Wd)(he:e<eMax) :
 Calls prog 100 #[.int .i64 e] w (Sm (.bool (eneg e)) w):=by
 unfold eMax at he
 by_cases hp:0<e
 ·have g0:(0:Int)<e:=by omega
  have hm:(e:Int).tmod 2=(e:Int)%2:=YU (by omega)
  by_cases h1:e%2=1
  ·have H1:((e:Int)%2 == 1)=true:=by simp;omega
   have HX:Hq (eneg e=true):=by show _=_;simp[eneg,h1]
   clear h1
   go_enter func100,ntmps100
   go_wp2
   go_ret;exact⟨C6 HX.o.symm,rfl⟩
  ·have H1:((e:Int)%2 == 1)=false:=by simp;omega
   have HX:Hq (eneg e=false):=by show _=_;simp[eneg];omega
   clear h1
   go_enter func100,ntmps100
   go_wp2
   go_ret;exact⟨C6 HX.o.symm,rfl⟩
 ·obtain rfl:e=0:=by omega
  go_enter func100,ntmps100
  go_wp2
  go_ret;exact⟨C6 (by decide),rfl⟩
theorem FC (e:Nat)(w:Wd)(he:e<eMax) :
 Calls prog 99 #[.int .i64 e] w (Sm (.bool (decide (enode e=0))) w):=by
 go_enter func99,ntmps99
 go_wp2_with fail;refine(B7 e _ he).mono ?_;rintro x w' ⟨rfl,rfl⟩
 by_cases h:enode e=0
 ·have H:((enode e:Int) == 0)=true:=by simp[h]
  have HX:Hq (decide (enode e=0)=true):=by show _=_;simp[h]
  clear h;go_wp2_with fail;go_ret;exact⟨C6 HX.o.symm,rfl⟩
 ·have H:((enode e:Int) == 0)=false:=by simp;exact h
  have HX:Hq (decide (enode e=0)=false):=by show _=_;simp[h]
  clear h;go_wp2_with fail;go_ret;exact⟨C6 HX.o.symm,rfl⟩
theorem GW (lo hi:Nat)(w:Wd)(hl:lo<eMax)(hh:hi<eMax) :
 Calls prog 179 #[.int .i64 lo,.int .i64 hi] w (Sm (.tuple #[.int .i64 (eflip lo (eneg hi):Nat),.int .i64 (eflip hi (eneg hi):Nat),.bool (eneg hi)]) w):=by
 obtain⟨b,hb⟩:∃ b,eneg hi=b:=⟨_,rfl⟩;rw[hb];have HB:=Hd hb;clear hb
 go_enter func179,ntmps179
 go_wp2_with fail;refine(Dt hi _ hh).mono ?_;rintro x w' ⟨rfl,rfl⟩;rw[HB.o];go_wp2_with fail;refine(Ch lo _ _ hl).mono ?_;rintro x w' ⟨rfl,rfl⟩;go_wp2_with fail;refine(Ch hi _ _ hh).mono ?_;rintro x w' ⟨rfl,rfl⟩;go_wp2_with fail
 go_ret3
 exact⟨rfl,rfl⟩
theorem GX (id:Nat)(b:Bool)(w:Wd)(hi:id<2305843009213693952) :
 Calls prog 182 #[.int .i64 id,.bool b] w (Sm (.int .i64 (eflip (2*id) b:Nat)) w):=by
 have hm:max (id:Int) 0=id:=by omega
 have he:2*id<eMax:=by unfold eMax;omega
 have HC:Hq ((2:Int)*id=((2*id:Nat):Int)):=by show _=_;omega
 go_enter func182,ntmps182
 go_wp2_with fail;rw[HC.o];refine(Ch (2*id) b _ he).mono ?_;rintro x w' ⟨rfl,rfl⟩;go_wp2_with fail;go_ret;exact⟨rfl,rfl⟩
def Ah:Nat->(Nat->Int)->Int
 | 0,_=>0
 | k+1,f=>Ah k f+f k
theorem Bs {f g:Nat->Int}:∀ (k:Nat),(∀ i,i<k->f i=g i)->Ah k f=Ah k g
 | 0,_=>rfl
 | k+1,h=>by rw[Ah,Ah,Bs k (fun i hi=>h i (by omega)),h k (by omega)]
theorem Du:∀ (k:Nat),Ah k (fun _=>0)=0
 | 0=>rfl
 | k+1=>by rw[Ah,Du k];rfl
theorem Dd {f g:Nat->Int}{j:Nat}(hfg:∀ i,i≠j->g i=f i):∀ (k:Nat),j<k->Ah k g=Ah k f+(g j-f j)
 | 0,h=>by omega
 | k+1,h=>by
   rw[Ah,Ah]
   by_cases e:j=k
   . subst e;rw[Bs j (fun i hi=>hfg i (by omega))];omega
   . rw[Dd hfg k (by omega),hfg k (X1 e)];omega
theorem FD {f:Nat->Int}:∀ (k:Nat),(∀ i,i<k->0<=f i)->0<=Ah k f
 | 0,_=>Int.le_refl 0
 | k+1,h=>by rw[Ah];have:=FD k (fun i hi=>h i (by omega));have:=h k (by omega);omega
theorem FE {f:Nat->Int}{j:Nat}:∀ (k:Nat),(∀ i,i<k->0<=f i)->j<k->f j<=Ah k f
 | 0,_,h=>by omega
 | k+1,h,hj=>by
   rw[Ah]
   by_cases e:j=k
   . subst e;have:=FD j (fun i hi=>h i (by omega));omega
   . have:=FE k (fun i hi=>h i (by omega)) (j:=j) (by omega);have:=h k (by omega);omega
abbrev Yx:=@Nat.add_assoc
theorem Kh {f:Nat->Int}(k:Nat):∀ (m:Nat),(∀ i,k<=i->f i=0)->Ah (k+m) f=Ah k f
 | 0,_=>rfl
 | m+1,h=>by rw[<- Yx,Ah,Kh k m h,h (k+m) (by omega)];omega
theorem Ki {f:Nat->Int}(h:∀ i,k<=i->f i=0)(hk:k<=k'):Ah k' f=Ah k f:=by
 obtain⟨m,rfl⟩:=Nat.le.dest hk;exact Kh k m h
def toE (e x:Nat):Int:=if e/2=x then 1 else 0
theorem Cv (e x:Nat):0<=toE e x:=by unfold toE;split<;>omega
theorem Em (e:Nat):toE e (e/2)=1:=by simp[toE]
def Ci (b:BN)(x:Nat):Int:=toE b.lo x+toE b.hi x
def from1 (N:Nat->Option BN)(c:Nat->Nat)(x p:Nat):Int :=
 match N p with
 | some b=>if 0<c p then Ci b x else 0
 | none=>0
theorem Kj (N:Nat->Option BN)(c:Nat->Nat)(x p:Nat):0<=from1 N c x p:=by
 unfold from1 Ci;split
 . rename_i b _;have:=Cv b.lo x;have:=Cv b.hi x;split<;>omega
 . omega
structure Cnt (k:Nat)(N:Nat->Option BN)(c:Nat->Nat)(ext:Nat->Int):Prop where
 lt:∀ i b,N i=some b->i<k
 eq:∀ x b,N x=some b->(c x:Int)=ext x+Ah k (from1 N c x)
def bump (f:Nat->Int)(x:Nat)(d:Int):Nat->Int:=fun i=>if i=x then f i+d else f i
def setC (c:Nat->Nat)(x v:Nat):Nat->Nat:=fun i=>if i=x then v else c i
def addE (f:Nat->Int)(e:Nat)(d:Int):Nat->Int:=fun i=>f i+d*toE e i
section
variable {c:Nat->Nat}{ext:Nat->Int}
theorem Cnt.congr (h:Cnt k N c ext){ext':Nat->Int}(he:∀ x b,N x=some b->ext' x=ext x):Cnt k N c ext' :=
 ⟨h.lt,fun x b hb=>by rw[he x b hb];exact h.eq x b hb⟩
theorem Cnt.weaken (h:Cnt k N c ext)(hk:k<=k'):Cnt k' N c ext :=
 ⟨fun i b hb=>Xh (h.lt i b hb) hk,fun x b hb=>by
  rw[h.eq x b hb,Ki (fun i hi=>by
   unfold from1;cases e:N i with
   | none=>rfl
   | some b=>have:=h.lt i b e;omega) hk]⟩
theorem Cnt.moreLive (h:Cnt k N c ext)(hc:0<c x):Cnt k N (setC c x (c x+1)) (bump ext x 1):=by
 refine⟨h.lt,fun z b hb=>?_⟩;have e1:Ah k (from1 N (setC c x (c x+1)) z)=Ah k (from1 N c z):=Bs k fun i _=>by
  unfold from1;cases N i with
  | none=>rfl
  | some b =>
    by_cases e:i=x
    . subst e;simp only[setC,XP,hc,show 0<c i+1 from by omega]
    . simp only[setC,WO e]
 rw[e1];have:=h.eq z b hb
 by_cases e:z=x
 . subst e;simp only[setC,bump,XP];omega
 . simp only[setC,bump,WO e];exact this
theorem Cnt.moreDead (h:Cnt k N c ext){b:BN}(hx:N x=some b)(hc:c x=0) :
 Cnt k N (setC c x 1) (addE (addE (bump ext x 1) b.lo (-1)) b.hi (-1)):=by
 refine⟨h.lt,fun z b' hb'=>?_⟩;have e1:Ah k (from1 N (setC c x 1) z)=Ah k (from1 N c z)+(from1 N (setC c x 1) z x-from1 N c z x):=by
  refine Dd (fun i hi=>?_) k (h.lt x b hx);unfold from1;simp only[setC,WO hi]
 have e2:from1 N (setC c x 1) z x=Ci b z:=by simp[from1,hx,setC]
 have e3:from1 N c z x=0:=by simp[from1,hx,hc]
 rw[e1,e2,e3];have:=h.eq z b' hb';unfold Ci;simp only[addE,bump,setC]
 by_cases e:z=x
 . subst e;simp only[XP];omega
 . simp only[WO e];omega
theorem Cnt.lessLive (h:Cnt k N c ext)(hc:1<c x):Cnt k N (setC c x (c x-1)) (bump ext x (-1)):=by
 refine⟨h.lt,fun z b hb=>?_⟩;have e1:Ah k (from1 N (setC c x (c x-1)) z)=Ah k (from1 N c z):=Bs k fun i _=>by
  unfold from1;cases N i with
  | none=>rfl
  | some b =>
    by_cases e:i=x
    . subst e;simp only[setC,XP,show 0<c i from by omega,show 0<c i-1 from by omega]
    . simp only[setC,WO e]
 rw[e1];have:=h.eq z b hb
 by_cases e:z=x
 . subst e;simp only[setC,bump,XP];omega
 . simp only[setC,bump,WO e];exact this
theorem Cnt.lessDies (h:Cnt k N c ext){b:BN}(hx:N x=some b)(hc:c x=1) :
 Cnt k N (setC c x 0) (addE (addE (bump ext x (-1)) b.lo 1) b.hi 1):=by
 refine⟨h.lt,fun z b' hb'=>?_⟩;have e1:Ah k (from1 N (setC c x 0) z)=Ah k (from1 N c z)+(from1 N (setC c x 0) z x-from1 N c z x):=by
  refine Dd (fun i hi=>?_) k (h.lt x b hx);unfold from1;simp only[setC,WO hi]
 have e2:from1 N (setC c x 0) z x=0:=by simp[from1,hx,setC]
 have e3:from1 N c z x=Ci b z:=by simp[from1,hx,hc]
 rw[e1,e2,e3];have:=h.eq z b' hb';unfold Ci;simp only[addE,bump,setC]
 by_cases e:z=x
 . subst e;simp only[XP];omega
 . simp only[WO e];omega
theorem Cnt.pos_of_ext (h:Cnt k N c ext){b:BN}(hx:N x=some b)(he:1<=ext x):0<c x:=by
 have:=h.eq x b hx;have h2:0<=Ah k (from1 N c x):=FD k fun i _=>Kj N c x i
 omega
theorem Cnt.pos_of_live (h:Cnt k N c ext){p:Nat}{bp:BN}(hp:N p=some bp)(hc:0<c p)(he:e=bp.lo\/e=bp.hi){b:BN}(hx:N (e/2)=some b)(h0:0<=ext (e/2)):0<c (e/2):=by
 have:=h.eq _ b hx;have h2:from1 N c (e/2) p<=Ah k (from1 N c (e/2)):=FE k (fun i _=>Kj N c _ i) (h.lt p bp hp);have h3:1<=from1 N c (e/2) p:=by
  simp only[from1,hp,hc,XP,Ci];have a:=Cv bp.lo (e/2);have b:=Cv bp.hi (e/2);rcases he with rfl|rfl
  . have:=Em bp.lo;omega
  . have:=Em bp.hi;omega
 omega
theorem Cnt.collect (h:Cnt k N c ext)(N':Nat->Option BN)(hN:∀ i,N' i=if 0<c i then N i else none):Cnt k N' c ext:=by
 refine⟨fun i b hb=>?_,fun x b hb=>?_⟩
 ·rw[hN] at hb;split at hb
  . exact h.lt i b hb
  . cases hb
 ·have g0:N x=some b:=by
   rw[hN] at hb;split at hb
   . exact hb
   . cases hb
  rw[h.eq x b g0];congr 1;refine Bs k fun i _=>?_
  unfold from1;rw[hN]
  by_cases hc:0<c i
  . rw[WR hc]
  ·rw[WO hc];cases N i with
   | none=>rfl
   | some b=>simp[hc]
theorem Cnt.add (h:Cnt k N c ext){b:BN}(hf:N id=none)(hno:∀ i bi,N i=some bi->bi.lo/2≠id/\bi.hi/2≠id)(hid:id<k) :
 Cnt k (addN N id b) (setC c id 0) (fun i=>if i=id then 0 else ext i):=by
 have hs:∀ x,Ah k (from1 (addN N id b) (setC c id 0) x)=Ah k (from1 N c x):=fun x=>Bs k fun i _=>by
  unfold from1
  by_cases e:i=id
  . subst e;rw[BQ,hf];simp[setC]
  . rw[Bc _ e];simp only[setC,WO e]
 refine⟨fun i b' hb=>?_,fun x b' hb=>?_⟩
 ·by_cases e:i=id
  . rw[e];exact hid
  . rw[Bc _ e] at hb;exact h.lt i b' hb
 ·rw[hs]
  by_cases e:x=id
  ·subst e;simp only[setC,XP];rw[Bs k (g:=fun _=>0) (fun i _=>?_),Du]
   . rfl
   ·unfold from1;cases hi:N i with
    | none=>rfl
    | some bi =>
      have:=hno i bi hi;simp[Ci,toE,this.1,this.2]
  . rw[Bc _ e] at hb;simp only[setC,WO e];exact h.eq x b' hb
theorem Cnt.setLive (h:Cnt k N c ext){b b':BN}(hx:N x=some b)(hc:0<c x) :
 Cnt k (fun i=>if i=x then some b' else N i) c (addE (addE (addE (addE ext b.lo 1) b.hi 1) b'.lo (-1)) b'.hi (-1)):=by
 refine⟨fun i b2 hb=>?_,fun z b2 hb=>?_⟩
 ·split at hb
  . rename_i e;rw[e];exact h.lt x b hx
  . exact h.lt i b2 hb
 ·have hz:∃ q,N z=some q:=by
   split at hb
   . rename_i e;rw[e];exact⟨b,hx⟩
   . exact⟨b2,hb⟩
  obtain⟨q,hq⟩:=hz;have e1:Ah k (from1 (fun i=>if i=x then some b' else N i) c z)=Ah k (from1 N c z)+(from1 (fun i=>if i=x then some b' else N i) c z x-from1 N c z x):=by
   refine Dd (fun i hi=>?_) k (h.lt x b hx);unfold from1;simp only[WO hi]
  have e2:from1 (fun i=>if i=x then some b' else N i) c z x=Ci b' z:=by simp[from1,hc]
  have e3:from1 N c z x=Ci b z:=by simp[from1,hx,hc]
  rw[e1,e2,e3];have:=h.eq z q hq;unfold Ci;simp only[addE];omega
end
def dead1 (N:Nat->Option BN)(c:Nat->Nat)(i:Nat):Int :=
 match N i with
 | some _=>if c i=0 then 1 else 0
 | none=>0
def AW (k:Nat)(N:Nat->Option BN)(c:Nat->Nat):Int:=Ah k (dead1 N c)
theorem Kk (N:Nat->Option BN)(c:Nat->Nat)(i:Nat):0<=dead1 N c i:=by unfold dead1;split<;>first|omega|(split<;>omega)
theorem FF {c:Nat->Nat}{v:Nat}{b:BN}(hx:N x=some b)(hk:x<k) :
 AW k N (setC c x v)=AW k N c+((if v=0 then 1 else 0)-(if c x=0 then 1 else 0)):=by
 unfold AW;rw[Dd (f:=dead1 N c) (j:=x) (fun i hi=>?_) k hk]
 . simp[dead1,hx,setC]
 . unfold dead1;simp only[setC,WO hi]
section
def reaches (ops:Array Oper):Nat->Nat->Nat->Bool
 | 0,_,_=>false
 | f+1,i,j=>match ops[j]? with
   | none=>false
   | some oj=>oj.after.any fun e=>Region.binds .any e&&(e.on == i||reaches ops f i e.on)
def Closed (ops:Array Oper)(L:Array Bool):Prop:=∀ j oj,ops[j]?=some oj->L.getD j false=true->∀ e∈oj.after,Region.binds .any e=true->L.getD e.on false=true
theorem FG (n:Nat):Closed ops (Array.replicate n false):=by
 intro j oj _ h;rcases Xe j n with h'|h'<;>simp[h'] at h
abbrev Zd:=@mem_ready
theorem Closed.set (h:Closed ops L)(hi:i∈Region.ready .any ops L):Closed ops (L.setIfInBounds i true):=by
 obtain⟨_,oi,g2,g1⟩:=Zd.1 hi;intro j oj hj hl e he hb
 by_cases g0:i=j
 . subst g0;obtain rfl:oj=oi:=XL (hj.symm.trans g2);exact getD_set_true (g1 e he hb)
 . rw[getD_set_ne false g0] at hl;exact getD_set_true (h j oj hj hl e he hb)
abbrev Xq:=@Bool.and_eq_true
theorem EP {L:Array Bool}(hc:Closed ops L){i:Nat}:∀ (f j:Nat),(j∈Region.ready .any ops L\/L.getD j false=true)->reaches ops f i j=true->L.getD i false=true
 | 0,_,_,h=>by simp[reaches] at h
 | f+1,j,hj,h=>by
   unfold reaches at h;split at h
   . cases h
   ·rename_i oj hoj
    obtain⟨e,he,h2⟩:=Array.any_eq_true'.1 h;simp only[Xq,Bool.or_eq_true,beq_iff_eq] at h2;have hl:L.getD e.on false=true:=by
     rcases hj with hj|hj
     . obtain⟨_,o',g1,g0⟩:=Zd.1 hj;obtain rfl:o'=oj:=XL (g1.symm.trans hoj);exact g0 e he h2.1
     . exact hc j oj hoj hj e he h2.1
    rcases h2.2 with e1|e1
    . rw[<- e1];exact hl
    . exact EP hc f e.on (.inr hl) e1
abbrev YH:=@Array.getElem?_eq_none
theorem GY (h:L.getD i true=false):L.getD i false=false:=by
 rcases Xe i L.size with h'|h'
 . simp[h'] at h ⊢;exact h
 . simp[YH h'] at h
def DM (P:Program)(ops:Array Oper)(Q:Exit->Act->Wd->Prop)(S:Wd->Prop)(m:Nat):Nat->Array Bool->Act->Wd->Prop
 | 0,L,a,w=>Region.ready .any ops L=[]/\Q .normal a w
 | f+1,L,a,w=>(Region.ready .any ops L=[]->Q .normal a w) /\
   ∀ i∈Region.ready .any ops L,wpOp P ops Q i (fun a' w'=>(i=m\/S w')/\DM P ops Q S m f (L.setIfInBounds i true) a' w') a w
theorem FH {m:Nat}:∀ (f:Nat) (L:Array Bool) (a:Act) (w:Wd),DM P ops Q S m f L a w->wpAny P .any ops Q f L a w
 | 0,_,_,_,h=>h
 | f+1,_,_,_,h=>⟨h.1,fun i hi=>wpOp_mono (fun a' w' h'=>FH f _ a' w' h'.2) (h.2 i hi)⟩
abbrev Za:=@ready_mono
abbrev XD:=@decide_eq_true_eq
abbrev Y4:=@Region.noSelect_spec
abbrev YA:=@Array.setIfInBounds_comm
theorem GZ {m:Nat}{oi:Oper}(hi:ops[i]?=some oi)(hs:Region.noSelect ops=true)(hQ:∀ c (a:Act) d v w,Q (.panic c) (a.put d v) w->Q (.panic c) a w)
 (hm:(decide (ops.size<=m)||reaches ops ops.size i m)=true) :
 ∀ (f:Nat) (L:Array Bool) (a:Act) (w:Wd),Closed ops L ->
  (∀ j oj,ops[j]?=some oj->j≠i->L.getD j true=false->(∀ e∈oj.after,Region.binds .any e=true->e.on≠i)->oi.apart ops oj=true) ->
  i∈Region.ready .any ops L->YieldsIf P ops S oi v a->S w ->
  DM P ops Q S m f (L.setIfInBounds i true) (a.put oi.dst v) w->DM P ops Q S m (f+1) L a w:=by
 intro f
 induction f with
 | zero =>
   intro L a w _ _ hr hy hS H;refine⟨fun h=>(by rw[h] at hr;cases hr),fun j hj=>?_⟩
   by_cases g0:j=i
   . subst g0;exact hy.wpOp hi hS ⟨.inr hS,H⟩
   . have:=Za hj g0;rw[H.1] at this;cases this
 | succ f ih =>
   intro L a w hc g2 hr hy hS H;refine⟨fun h=>(by rw[h] at hr;cases hr),fun j hj=>?_⟩
   by_cases g0:j=i
   . subst g0;exact hy.wpOp hi hS ⟨.inr hS,H⟩
   ·have h1:=H.2 j (Za hj g0);obtain⟨g3,oj,g1,ga⟩:=Zd.1 hj;have g4:=GY (Zd.1 hr).1;have g9:∀ e∈oj.after,Region.binds .any e=true->e.on≠i:=fun e he hb ge=>by
     have h1:=ga e he hb;rw[ge,g4] at h1;cases h1
    have gd:j≠m:=by
     rintro rfl;simp only[Bool.or_eq_true,XD] at hm;rcases hm with hm|hm
     . have:=(WL.1 g1).1;omega
     . have:=EP hc _ _ (.inl hj) hm;rw[g4] at this;cases this
    have h2:=wpOp_putIf g1 (g2 j oj g1 g0 g3 g9) (fun cs b=>Y4 hs i oi cs b hi) (fun cs b=>Y4 hs j oj cs b g1) (fun c a w=>hQ c a _ _ w) hy h1;have g5:∀ k ok,ops[k]?=some ok->k≠i->(L.setIfInBounds j true).getD k true=false ->
     (∀ e∈ok.after,Region.binds .any e=true->e.on≠i)->oi.apart ops ok=true:=fun k ok hk gc g6 gb=>by
     refine g2 k ok hk gc ?_ gb
     by_cases g7:j=k
     . subst g7;exact g3
     . rw[getD_set_ne true g7] at g6;exact g6
    refine wpOp_mono (fun a' w' h3=>?_) h2;have g8:=h3.2.1.resolve_left gd;refine⟨.inr g8,ih (L.setIfInBounds j true) a' w' (hc.set hj) g5 (Za hr (X1 g0)) h3.1 g8 ?_⟩;rw[YA _ _ g0];exact h3.2.2
def mixB (ops:Array Oper)(m:Nat):List (Nat×Bool)->Array Bool->Bool
 | [],L=>(Region.ready .any ops L).isEmpty
 | (i,true)::r,L=>decide (Region.ready .any ops L=[i])&&mixB ops m r (L.setIfInBounds i true)
 | (i,false)::r,L=>(Region.ready .any ops L).contains i&&Region.free .any ops L i&&(decide (ops.size<=m)||reaches ops ops.size i m)&&mixB ops m r (L.setIfInBounds i true)
def AE (P:Program)(ops:Array Oper)(Q:Exit->Act->Wd->Prop)(S:Wd->Prop)(last:Bool):List (Option Oper×Bool)->Act->Wd->Prop
 | [],a,w=>Q .normal a w
 | (none,_)::_,_,_=>False
 | (some o,false)::r,a,w=>∃ v,YieldsIf P ops S o v a/\AE P ops Q S last r (a.put o.dst v) w
 | (some o,true)::r,a,w=>if Region.wanted o (yielded ops a.tmps) then o.wp P a w (fun a' w'=>((last&&r.isEmpty)=true\/S w')/\AE P ops Q S last r a' w') Q else AE P ops Q S last r (a.put o.dst undef) w
def planned (l:List Oper)(seq:List (Nat×Bool)):List (Option Oper×Bool):=seq.map fun p=>(l[p.1]?,p.2)
abbrev YX:=@List.isEmpty_iff
abbrev XJ:=@List.map_cons
abbrev Zs:=@Region.free_spec
theorem FI {l:List Oper}{m:Nat}{last:Bool}(hs:Region.noSelect l.toArray=true)(hQ:∀ c (a:Act) d v w,Q (.panic c) (a.put d v) w->Q (.panic c) a w) :
 ∀ (seq:List (Nat×Bool)) (L:Array Bool) (a:Act) (w:Wd),(last=true->(seq.getLast?.map (·.1)=some m\/seq=[])) ->
 mixB l.toArray m seq L=true->Closed l.toArray L->S w\/seq=[]->AE P l.toArray Q S last (planned l seq) a w->DM P l.toArray Q S m seq.length L a w
 | [],L,a,w,_,hB,_,_,h=>⟨by simpa [mixB,YX] using hB,h⟩
 | (i,b)::r,L,a,w,hl,hB,hc,hS,h=>by
   have hS0:=hS.resolve_right (by simp);have hl':last=true->(r.getLast?.map (·.1)=some m\/r=[]):=fun e=>by
    cases r with
    | nil=>exact .inr rfl
    | cons x r=>left;simpa using(hl e).resolve_right (by simp)
   cases hi:l[i]? with
   | none=>simp only[planned,XJ,hi,AE] at h
   | some o =>
     have hi':l.toArray[i]?=some o:=by simpa using hi
     simp only[planned,XJ,hi] at h;cases b with
     | false =>
       simp only[mixB,Xq] at hB;obtain⟨⟨⟨hr,hf⟩,hm⟩,hB⟩:=hB;obtain⟨v,hy,hn⟩:=h;have g0:i∈Region.ready .any l.toArray L:=by simpa using hr
       exact GZ hi' hs hQ hm _ L a w hc (Zs hi' hf) g0 hy hS0 (FI hs hQ r _ _ w hl' hB (hc.set g0) (.inl hS0) hn)
     | true =>
       simp only[mixB,Xq,XD] at hB;obtain⟨hr,hB⟩:=hB;refine⟨fun h0=>(by rw[h0] at hr;cases hr),fun j hj=>?_⟩;have g1:j=i:=by rw[hr] at hj;simpa using hj
       subst g1;simp only[AE] at h;unfold wpOp;rw[hi']
       by_cases hw:Region.wanted o (yielded l.toArray a.tmps)=true
       ·simp only[hw,XP] at h ⊢;left;refine Oper.wp_mono ?_ h;intro a' w' ⟨h1,h2⟩;refine⟨?_,?_⟩
        ·rcases h1 with h1|h1
         . simp only[Xq,YX,List.map_eq_nil_iff] at h1;obtain⟨h1,rfl⟩:=h1;left;simpa using(hl h1)
         . exact .inr h1
        ·refine FI hs hQ r _ _ w' hl' hB (hc.set hj) ?_ h2;rcases h1 with h1|h1
         . simp only[Xq,YX,List.map_eq_nil_iff] at h1;exact .inr h1.2
         . exact .inl h1
       . simp only[hw] at h ⊢;exact⟨.inr hS0,FI hs hQ r _ _ w hl' hB (hc.set hj) (.inl hS0) h⟩
def NP (Q:Exit->Act->Wd->Prop):Exit->Act->Wd->Prop
 | .panic _,_,_=>False
 | e,a,w=>Q e a w
theorem Kl {s:Code}(h:s.wp P (NP Q) a w):s.wp P Q a w :=
 Code.wp_mono (fun e a w h=>by cases e<;>first|exact h|exact h.elim) h
theorem AR (S:Wd->Prop)(last:Bool)(m:Nat)(seq:List (Nat×Bool))(hm:P.follows .mixedOrders=true)
 (hB:(Region.noSelect l.toArray&&decide (seq.length=l.toArray.size)&&(!last||decide (seq.getLast?.map (·.1)=some m))&&mixB l.toArray m seq (Array.replicate l.toArray.size false))=true)
 (hS:S w.drew) (h:AE P l.toArray (NP Q) S last (planned l seq) a w.drew):(Code.region id l.toArray true).wp P Q a w:=by
 simp only[Xq,XD] at hB;obtain⟨⟨⟨hs,g0⟩,hl⟩,hB⟩:=hB;refine Kl (wp_region_any hm (FH _ _ _ _ ?_ (S:=S) (m:=m)));rw[<- g0];refine FI hs (fun _ _ _ _ _ h=>h) seq _ _ _ (fun e=>?_) (by rw[g0];exact hB) (FG _) (.inl hS) h;subst e;left;simpa using hl
theorem Cj (h:Q .normal a w):NP Q .normal a w:=h
theorem CM (h:Q .normal a w):AE P ops (NP Q) S last [] a w:=h
theorem OR {o:Oper}(hg:o.guard=none)(hv:∀ w,S w->(execOp a.eval o).run P w=.ok (.value v) w)
 (h:AE P ops Q S last r (a.put o.dst v) w):AE P ops Q S last ((some o,false)::r) a w :=
 ⟨v,.inl ⟨by simp[Region.wanted,hg],hv⟩,h⟩
theorem A3 {o:Oper}(hg:o.guard=none)
 (h:∃ v,(∀ w,S w->(execOp a.eval o).run P w=.ok (.value v) w)/\AE P ops Q S last r (a.put o.dst v) w):AE P ops Q S last ((some o,false)::r) a w:=by
 obtain⟨v,h1,h2⟩:=h;exact OR hg h1 h2
theorem Ia {o:Oper}(b:Bool)(hb:Region.wanted o (yielded ops a.tmps)=b)
 (h:∃ v,(b=true->∀ w,S w->(execOp a.eval o).run P w=.ok (.value v) w)/\AE P ops Q S last r (a.put o.dst (if b then v else undef)) w):AE P ops Q S last ((some o,false)::r) a w:=by
 obtain⟨v,h1,h2⟩:=h;cases b with
 | true=>exact⟨v,.inl ⟨hb,h1 rfl⟩,h2⟩
 | false=>exact⟨undef,.inr ⟨hb,rfl⟩,h2⟩
theorem FJ {o:Oper}(hg:o.guard=none)
 (he:(execOp a.eval o).run P w=.ok (.value v) w') (hS:S w') (h:AE P ops Q S last r (a.put o.dst v) w'):AE P ops Q S last ((some o,true)::r) a w:=by
 have hw:Region.wanted o (yielded ops a.tmps)=true:=by simp[Region.wanted,hg]
 unfold AE;simp only[hw,XP,Oper.wp,he,Oper.upon];exact⟨.inr hS,h⟩
abbrev XH:=@Sem.run_bind
abbrev Xs:=@Result.andThen_ok
abbrev Zh:=@List.map_nil
theorem Km {o:Oper}{s x:Operand}{u:TypeId}{y:Value}(ho:o.op=.call { callee:=.builtin .append,args:=#[s,x],argTypes:=#[t,u] })
 (hs:a.eval s=v) (hx:a.eval x=y) (hr:(Builtin.append_ #[t,u] o.type #[v,y]).run P w=.ok v' w'):(execOp a.eval o).run P w=.ok (.value v') w':=by
 unfold execOp;simp only[ho,resolve,invoke,builtin,XH,Sem.run_pure,Xs,List.map_toArray,XJ,Zh,hs,hx,hr]
theorem FK {o:Oper}(hg:o.guard=none)
 (h:∀ K:Act->Wd->Prop,(∀ a' w',S w'->AE P ops Q S last r a' w'->K a' w')->o.wp P a w K Q):AE P ops Q S last ((some o,true)::r) a w:=by
 have hw:Region.wanted o (yielded ops a.tmps)=true:=by simp[Region.wanted,hg]
 unfold AE;simp only[hw,XP];exact h _ fun a' w' h1 h2=>⟨.inr h1,h2⟩
theorem Dv {o:Oper}(hg:o.guard=none)
 (h:∀ K:Act->Wd->Prop,(∀ a' w',Q .normal a' w'->K a' w')->o.wp P a w K Q):AE P ops Q S true [(some o,true)] a w:=by
 have hw:Region.wanted o (yielded ops a.tmps)=true:=by simp[Region.wanted,hg]
 unfold AE;simp only[hw,XP];exact h _ fun a' w' h1=>⟨.inl rfl,h1⟩
end
structure RN where
 id:Nat
 v:Nat
 lo:Nat
 hi:Nat
 refs:Nat
def rn0:RN:=⟨0,0,0,0,0⟩
def nat64 (n:Nat):Value:=.int .i64 n
def rnV (n:RN):List Value:=[.int .i64 n.id,.int .i64 n.v,.int .i64 n.lo,.int .i64 n.hi,.int .i64 n.refs]
theorem FL (n:RN):(rnV n).length=5:=rfl
def Am (n:RN):Value:=.agg #[.int .i64 n.id,.int .i64 n.v,.int .i64 n.lo,.int .i64 n.hi,.int .i64 n.refs]
structure Ad where
 room:Nat
 at_:List RN
 taken:List Bool
 free:List Nat
 many:Nat
variable {p:Ad}
def Ad.tk (p:Ad)(i:Nat):Bool:=p.taken.getD i false
def Ad.nd (p:Ad)(i:Nat):RN:=p.at_.getD i rn0
def Ad.get (p:Ad)(i:Nat):Option RN:=if p.tk i=true then some (p.nd i) else none
structure Aq (o:Own)(w:Wd)(pb:Nat)(p:Ad):Prop where
 own:o pb=some .pool
 blk:∃ vs vt vf,w.heap[pb]?=some (.cells #[.int .i64 p.room,vs,vt,vf,.int .i64 p.many] 231 (0,0)) /\
  RowR o w .slots 236 5 vs p.at_.length (p.at_.flatMap rnV)/\RowR o w .taken 4 1 vt p.taken.length (p.taken.map Value.bool) /\
  RowR o w .free 3 1 vf p.free.length (p.free.map nat64)
 len:p.taken.length=p.at_.length
 room:p.room<=1048576
 top:p.at_.length<=p.room+1
 zero:p.tk 0=false
 pos:0<p.at_.length
 id:∀ i,p.tk i=true->(p.nd i).id=i
 many:p.many+p.free.length+1=p.at_.length
 nodup:p.free.Nodup
 free:∀ i,i∈p.free->0<i/\i<p.at_.length/\p.tk i=false
 cnt:(p.many:Int)=Ah p.at_.length (fun i=>if p.tk i=true then 1 else 0)
theorem Az {cur:Array Value}{e:TypeId}{fr:Nat×Nat}(h:w.heap[g]?=some (.cells cur e fr))(u:Value):(w.setCell ⟨g,k,none⟩ u).heap[g]?=some (.cells (cur.setIfInBounds k u) e fr):=by
 simp only[World.setCell,Y1,XP,h];rfl
theorem Aw {p:Addr}(h:g≠p.block)(u:Value):(w.setCell p u).heap[g]?=w.heap[g]?:=YZ _ _ _ _ h
theorem Aq.keep {o o':Own}{w w':Wd}{pb:Nat}{p:Ad}(h:Aq o w pb p)(hk:∀ g r,o g=some r->(r=.pool\/r=.slots\/r=.taken\/r=.free)->w'.heap[g]?=w.heap[g]?)(ho:∀ g r,o g=some r->o' g=some r):Aq o' w' pb p:=by
 obtain⟨vs,vt,vf,h1,h2,h3,h4⟩:=h.blk
 exact⟨ho _ _ h.own,⟨vs,vt,vf,(hk _ _ h.own (.inl rfl)).trans h1,h2.keep (fun g hg=>hk g _ hg (.inr (.inl rfl))) (fun g hg=>ho g _ hg),h3.keep (fun g hg=>hk g _ hg (.inr (.inr (.inl rfl)))) (fun g hg=>ho g _ hg),
  h4.keep (fun g hg=>hk g _ hg (.inr (.inr (.inr rfl)))) (fun g hg=>ho g _ hg)⟩,h.len,h.room,h.top,h.zero,h.pos,h.id,h.many,h.nodup,h.free,h.cnt⟩
theorem RowR.drew {o:Own}{w:Wd}{r:Role}{e:TypeId}{size:Nat}{v:Value}{n:Nat}{xs:List Value}(h:RowR o w r e size v n xs):RowR o w.drew r e size v n xs:=⟨h.len,h.ex⟩
theorem Chg.drew {R:Role->Prop}{o o':Own}{w w':Wd}(h:Chg R o o' w w'):Chg R o o' w w'.drew:=⟨h.os,h.tape,h.output,h.size,h.block,h.ext,h.new⟩
theorem Aq.drew {o:Own}{w:Wd}{pb:Nat}{p:Ad}(h:Aq o w pb p):Aq o w.drew pb p:=h.keep (fun _ _ _ _=>rfl) (fun _ _ h=>h)
theorem Aq.chg {o:Own}(h:Aq o w pb p)(hc:Chg R o o' w w')(hlt:Ab o w)(h1:¬ R .pool)(h2:¬ R .slots)(h3:¬ R .taken)(h4:¬ R .free):Aq o' w' pb p :=
 h.keep (fun g r hg hr=>hc.same hlt hg (by rcases hr with rfl|rfl|rfl|rfl<;>assumption)) hc.ext
theorem Aq.below {o:Own}(h:Aq o w pb p)(hb:Bw w w')(hlt:Ab o w):Aq o w' pb p :=
 h.keep (fun g r hg _=>hb.block g (hlt g r hg)) (fun _ _ h=>h)
theorem Aq.cells {o:Own}(h:Aq o w pb p):∃ vs vt vf,w.cell? ⟨pb,0,none⟩=some (.int .i64 p.room)/\w.cell? ⟨pb,1,none⟩=some vs/\w.cell? ⟨pb,2,none⟩=some vt/\w.cell? ⟨pb,3,none⟩=some vf /\
 w.cell? ⟨pb,4,none⟩=some (.int .i64 p.many)/\RowR o w .slots 236 5 vs p.at_.length (p.at_.flatMap rnV)/\RowR o w .taken 4 1 vt p.taken.length (p.taken.map Value.bool) /\
 RowR o w .free 3 1 vf p.free.length (p.free.map nat64):=by
 obtain⟨vs,vt,vf,h1,h2,h3,h4⟩:=h.blk;exact⟨vs,vt,vf,by rw[WQ w pb 0 _ _ _ h1];rfl,by rw[WQ w pb 1 _ _ _ h1];rfl,by rw[WQ w pb 2 _ _ _ h1];rfl,by rw[WQ w pb 3 _ _ _ h1];rfl,by rw[WQ w pb 4 _ _ _ h1];rfl,h2,h3,h4⟩
theorem Aq.frozen {o:Own}{w:Wd}{pb:Nat}{p:Ad}(h:Aq o w pb p)(k:Nat):w.frozen? ⟨pb,k,none⟩=false:=by
 obtain⟨vs,vt,vf,h1,_⟩:=h.blk;simp[World.frozen?,h1]
theorem Aq.tk_lt {o:Own}(h:Aq o w pb p)(hi:p.tk i=true):0<i/\i<p.at_.length:=by
 constructor
 ·rcases Nat.eq_zero_or_pos i with rfl|h0
  . rw[h.zero] at hi;cases hi
  . exact h0
 ·rcases Xe i p.at_.length with h'|h'
  . exact h'
  . rw[<- h.len] at h';simp[Ad.tk,List.getD,Xb h'] at hi
theorem Aq.flag {o:Own}{m:Nat}(h:RowR o w .taken 4 1 (.slice (some ⟨g,0,none⟩) m cap) p.taken.length (p.taken.map Value.bool))(hk:k<p.taken.length):w.cell? ⟨g,k,none⟩=some (.bool (p.tk k)):=by
 rw[h.cell k (by simpa using hk)];simp[Ad.tk,List.getD,hk]
theorem Aq.node {o:Own}{m:Nat}(h:RowR o w .slots 236 5 (.slice (some ⟨g,0,none⟩) m cap) p.at_.length (p.at_.flatMap rnV))(hk:k<p.at_.length) :
 w.cell? ⟨g,k*5,none⟩=some (.int .i64 (p.nd k).id)/\w.cell? ⟨g,k*5+1,none⟩=some (.int .i64 (p.nd k).v)/\w.cell? ⟨g,k*5+2,none⟩=some (.int .i64 (p.nd k).lo) /\
 w.cell? ⟨g,k*5+3,none⟩=some (.int .i64 (p.nd k).hi)/\w.cell? ⟨g,k*5+4,none⟩=some (.int .i64 (p.nd k).refs):=by
 have hx:p.at_[k]?=some (p.nd k):=by simp[Ad.nd,List.getD,hk]
 have hl:(p.at_.flatMap rnV).length=p.at_.length*5:=BP rnV 5 FL _;have e:=fun j (hj:j<5)=>(h.cell (k*5+j) (by rw[hl];omega)).trans (DL rnV 5 FL p.at_ k j _ hx hj)
 exact⟨e 0 (by omega),e 1 (by omega),e 2 (by omega),e 3 (by omega),e 4 (by omega)⟩
theorem OS (o:Own)(pb:Nat)(p:Ad)(w:Wd)(h:Aq o w pb p) :
 Calls prog 204 #[Pt pb] w (Sm (.int .i64 p.many) w):=by
 obtain⟨vs,vt,vf,c0,c1,c2,c3,c4,_⟩:=h.cells
 delta Pt;go_enter func204,ntmps204
 go_wp2
 go_ret;exact⟨rfl,rfl⟩
theorem OT (o:Own)(pb:Nat)(p:Ad)(w:Wd)(h:Aq o w pb p) :
 Calls prog 203 #[Pt pb] w (Sm (.int .i64 p.room) w):=by
 obtain⟨vs,vt,vf,c0,c1,c2,c3,c4,_⟩:=h.cells
 delta Pt;go_enter func203,ntmps203
 go_wp2
 go_ret;exact⟨rfl,rfl⟩
theorem FM (o:Own)(pb:Nat)(p:Ad)(i:Nat)(w:Wd)(h:Aq o w pb p) :
 Calls prog 184 #[Pt pb,.int .i64 i] w (Sm (.bool (p.tk i)) w):=by
 obtain⟨vs,vt,vf,c0,c1,c2,c3,c4,hs,ht,_⟩:=h.cells;have g1:=h.pos;obtain⟨gs,cs,rfl,_⟩:=hs.shape g1;obtain⟨gt,ct,rfl,_⟩:=ht.shape (by rw[h.len];exact g1);have g4:=h.top;have g3:=h.room;have g0:=h.len;rw[g0] at c2
 by_cases h0:0<i
 ·have g5:(0:Int)<i:=by omega
  by_cases h1:i<p.at_.length
  ·have g2:(i:Int)<p.at_.length:=by omega
   have c5:=Aq.flag ht (k:=i) (by omega);obtain⟨b,hb⟩:∃ b,p.tk i=b:=⟨_,rfl⟩;rw[hb] at c5;rw[hb];clear g0 hb ht hs
   delta Pt;go_enter func184,ntmps184
   go_wp2
   go_ret;exact⟨rfl,rfl⟩
  ·have g2:¬ (i:Int)<p.at_.length:=by omega
   have HX:Hq (p.tk i=false):=by
    show _=_
    cases e:p.tk i with
    | false=>rfl
    | true=>exact absurd (h.tk_lt e).2 h1
   clear g0 ht hs
   delta Pt;go_enter func184,ntmps184
   go_wp2
   go_ret;exact⟨C6 HX.o.symm,rfl⟩
 ·obtain rfl:i=0:=by omega
  have HX:=Hd h.zero;clear g0 ht hs
  delta Pt;go_enter func184,ntmps184
  go_wp2
  go_ret;exact⟨C6 HX.o.symm,rfl⟩
abbrev Zi:=@List.take_zero
abbrev Yw:=@List.drop_of_length_le
abbrev Xn:=@List.take_of_length_le
theorem Ib {α:Type}(f:α->List Value)(s:Nat)(hf:∀ x,(f x).length=s):∀ (l:List α) (k:Nat) (y:α),k<l.length->(l.set k y).flatMap f=(l.flatMap f).take (k*s)++f y++(l.flatMap f).drop (k*s+s)
 | [],k,y,h=>by simp at h
 | x::l,0,y,_=>by
   simp only[List.set_cons_zero,Yn,Nat.zero_mul,Zi,XK,Xw];rw[List.drop_append,Yw (l:=f x) (by simp[hf]),hf];simp
 | x::l,k+1,y,h=>by
   simp only[List.set_cons_succ,Yn];rw[Ib f s hf l k y (by simpa using h),show (k+1)*s=s+k*s by rw[XV];omega];rw[List.take_append,hf,Xn (l:=f x) (by rw[hf];omega),show s+k*s-s=k*s by omega];rw[List.drop_append,hf,Yw (l:=f x) (by rw[hf];omega),show s+k*s+s-s=k*s+s by omega];simp[Xf]
abbrev Xv:=@List.getElem?_set
abbrev XS:=@List.length_nil
abbrev Y0:=@List.getElem?_drop
theorem OU (xs:List Value)(k:Nat)(a b c d e:Value)(h:k+5<=xs.length):((((xs.set k a).set (k+1) b).set (k+2) c).set (k+3) d).set (k+4) e=xs.take k++[a,b,c,d,e]++xs.drop (k+5):=by
 apply List.ext_getElem?;intro i;simp only[Xv,Xi]
 by_cases h0:i<k
 . rw[Xj (by simp;omega),Xj (by simp;omega),Yz,WR h0];rw[WO (by omega),WO (by omega),WO (by omega),WO (by omega),WO (by omega)]
 ·by_cases h1:i<k+5
  ·rw[Xj (by simp;omega),Xu (by simp;omega)];have hl:(xs.take k).length=k:=by simp;omega
   rw[hl];have:i=k\/i=k+1\/i=k+2\/i=k+3\/i=k+4:=by omega
   rcases this with rfl|rfl|rfl|rfl|rfl
   . simp;omega
   . simp;omega
   . simp;omega
   . simp;omega
   . simp;omega
  . rw[WO (by omega),WO (by omega),WO (by omega),WO (by omega),WO (by omega)];rw[Xu (by simp;omega)];simp only[WY,Yk,Xm,XS,Y0];congr 1;omega
def set5 (w:Wd)(g k:Nat)(n:RN):Wd :=
 ((((w.setCell ⟨g,k*5,none⟩ (.int .i64 n.id)).setCell ⟨g,k*5+1,none⟩ (.int .i64 n.v)).setCell ⟨g,k*5+2,none⟩ (.int .i64 n.lo)).setCell ⟨g,k*5+3,none⟩ (.int .i64 n.hi)).setCell ⟨g,k*5+4,none⟩ (.int .i64 n.refs)
theorem FN {o:Own}{m:Nat}{l:List RN}(h:RowR o w .slots 236 5 (.slice (some ⟨g,0,none⟩) m cap) l.length (l.flatMap rnV))(hk:k<l.length)(n:RN) :
 RowR o (set5 w g k n) .slots 236 5 (.slice (some ⟨g,0,none⟩) m cap) (l.set k n).length ((l.set k n).flatMap rnV):=by
 have h5:=((((h.stored (k*5) (.int .i64 n.id)).stored (k*5+1) (.int .i64 n.v)).stored (k*5+2) (.int .i64 n.lo)).stored (k*5+3) (.int .i64 n.hi)).stored (k*5+4) (.int .i64 n.refs);rw[Xi];have hl:(l.flatMap rnV).length=l.length*5:=BP rnV 5 FL _;rw[OU _ _ _ _ _ _ _ (by rw[hl];omega)] at h5;rw[Ib rnV 5 FL l k n hk];exact h5
theorem FO {o:Own}{n:RN}(h:Chg R o o' w0 w)(hg:o' g=some .slots)(hR:R .slots):Chg R o o' w0 (set5 w g k n) :=
 ((((h.setCell (p:=⟨g,k*5,none⟩) hg hR _).setCell (p:=⟨g,k*5+1,none⟩) hg hR _).setCell (p:=⟨g,k*5+2,none⟩) hg hR _).setCell (p:=⟨g,k*5+3,none⟩) hg hR _).setCell (p:=⟨g,k*5+4,none⟩) hg hR _
theorem B8 {n:RN}(hb:b≠g):(set5 w g k n).heap[b]?=w.heap[b]?:=by
 unfold set5;rw[Aw hb,Aw hb,Aw hb,Aw hb,Aw hb]
theorem De {n:RN}(hk:k<p.at_.length)(i:Nat):({ p with at_:=p.at_.set k n }:Ad).nd i=if i=k then n else p.nd i:=by
 unfold Ad.nd;dsimp only
 by_cases e:i=k
 . subst e;simp[List.getD,hk]
 . simp only[List.getD,Xv,WO (X1 e),WO e]
def Ad.setNd (p:Ad)(k:Nat)(n:RN):Ad:={ p with at_:=p.at_.set k n }
theorem Ad.setNd_get {n:RN}(hk:k<p.at_.length)(ht:p.tk k=true)(i:Nat):(p.setNd k n).get i=if i=k then some n else p.get i:=by
 unfold Ad.get;have:(p.setNd k n).tk i=p.tk i:=rfl;rw[this,show (p.setNd k n).nd i=if i=k then n else p.nd i from De hk i]
 by_cases e:i=k
 . subst e;simp[ht]
 . simp[e]
theorem Aq.setNd {o:Own}{w:Wd}{pb g cap m:Nat}{p:Ad}(h:Aq o w pb p)(hlt:Ab o w){vs:Value}(hc:w.cell? ⟨pb,1,none⟩=some vs)(hv:vs=.slice (some ⟨g,0,none⟩) m cap){k:Nat}{n:RN}(hk:p.tk k=true)(hn:n.id=k) :
 Aq o (set5 w g k n) pb (p.setNd k n):=by
 subst hv;obtain⟨vs,vt,vf,h1,h2,h3,h4⟩:=h.blk;have e1:vs=.slice (some ⟨g,0,none⟩) m cap:=by
  rw[WQ w pb 1 _ _ _ h1] at hc;simpa using hc
 subst e1;have hg:=h2.owner;obtain⟨_,g1⟩:=h.tk_lt hk;have g0:∀ {b r},o b=some r->r ≠ .slots->b≠g:=fun hb hr e=>by subst e;rw[hg] at hb;cases hb;exact hr rfl
 refine⟨h.own,⟨_,vt,vf,(B8 (g0 h.own (by simp))).trans h1,FN h2 g1 n,h3.keep (fun b hb=>B8 (g0 hb (by simp))) (fun _ h=>h),h4.keep (fun b hb=>B8 (g0 hb (by simp))) (fun _ h=>h)⟩,?_,h.room,?_,h.zero,?_,?_,?_,h.nodup,?_,?_⟩
 . simp only[Ad.setNd,Xi];exact h.len
 . simp only[Ad.setNd,Xi];exact h.top
 . simp only[Ad.setNd,Xi];exact h.pos
 ·intro i hi;rw[show (p.setNd k n).nd i=if i=k then n else p.nd i from De g1 i];split
  . rename_i e;rw[e];exact hn
  . exact h.id i hi
 . simp only[Ad.setNd,Xi];exact h.many
 . simp only[Ad.setNd,Xi];exact h.free
 . simp only[Ad.setNd,Xi];exact h.cnt
abbrev Xc:=@bodyPost_ret
theorem Kn (o:Own)(pb:Nat)(p:Ad)(i:Nat)(w:Wd)(h:Aq o w pb p)(hlt:Ab o w)(hi:p.tk i=true) :
 Calls prog 160 #[Pt pb,.int .i64 i] w (Bl (.tuple #[Am (p.nd i),.bool true]) w):=by
 obtain⟨vs,vt,vf,c0,c1,c2,c3,c4,hs,ht,_⟩:=h.cells;have g0:=h.pos;obtain⟨gs,cs,rfl,_⟩:=hs.shape g0;have g2:=h.top;have g1:=h.room;obtain⟨h0,h1⟩:=h.tk_lt hi;have g3:(i:Int)<p.at_.length:=by omega
 obtain⟨d0,d1,d2,d3,d4⟩:=Aq.node hs (k:=i) h1;obtain⟨n,hn⟩:∃ n,p.nd i=n:=⟨_,rfl⟩;rw[hn] at d0 d1 d2 d3 d4;rw[hn];have HH:=Hd (h.below (Af w (.cells #[.int .i64 0,.int .i64 0,.int .i64 0,.int .i64 0,.int .i64 0] 236)) hlt);have HI:=Hd hi;have l0:pb<w.heap.size:=Ag c1;have l1:gs<w.heap.size:=Ag d0;clear hn hs ht h hi hlt
 delta Pt;go_enter func160,ntmps160
 go_wp2_with fail;refine(FM o pb p i _ HH.o).mono ?_;rintro x w' ⟨rfl,rfl⟩;rw[HI.o];go_wp2_with fail;exact Xc (v:=.tuple #[Am n,.bool true]) (by simp[results,Tryz.results160,go_sem,Am]) rfl ⟨rfl,Af w _⟩
theorem OV (o:Own)(pb:Nat)(p:Ad)(i:Nat)(w:Wd)(h:Aq o w pb p)(hlt:Ab o w)(hi:p.tk i=false) :
 Calls prog 160 #[Pt pb,.int .i64 i] w (Bl (.tuple #[Am rn0,.bool false]) w):=by
 have HH:=Hd (h.below (Af w (.cells #[.int .i64 0,.int .i64 0,.int .i64 0,.int .i64 0,.int .i64 0] 236)) hlt);have HI:=Hd hi;clear h hi hlt
 delta Pt;go_enter func160,ntmps160
 go_wp2_with fail;refine(FM o pb p i _ HH.o).mono ?_;rintro x w' ⟨rfl,rfl⟩;rw[HI.o];go_wp2_with fail;exact Xc (v:=.tuple #[Am rn0,.bool false]) (by simp[results,Tryz.results160,go_sem,Am,rn0]) rfl ⟨rfl,Af w _⟩
theorem Ic (o:Own)(pb:Nat)(p:Ad)(n:RN)(w:Wd)(h:Aq o w pb p)(hlt:Ab o w)(hi:p.tk n.id=true) :
 Calls prog 161 #[Pt pb,Am n] w fun x w'=>x=.returned (.int .i64 0)/\Aq o w' pb (p.setNd n.id n)/\Chg (· = .slots) o o w w'/\Ab o w':=by
 obtain⟨vs,vt,vf,c0,c1,c2,c3,c4,hs,ht,_⟩:=h.cells;have g4:=h.pos;obtain⟨gs,cs,rfl,g2,_⟩:=hs.shape g4;have g6:=h.top;have g5:=h.room;obtain⟨h0,h1⟩:=h.tk_lt hi;have g7:(n.id:Int)<p.at_.length:=by omega
 obtain⟨W,hW⟩:=Ex (w.alloc (.cells #[.int .i64 n.id,.int .i64 n.v,.int .i64 n.lo,.int .i64 n.hi,.int .i64 n.refs] 236));have g0:Bw w W:=by rw[hW];exact Af w _
 have g3:=h.below g0 hlt;have g1:Ab o W:=hlt.mono g0.size;obtain⟨b,hb⟩:=Ex w.heap.size;have b0:W.cell? ⟨b,0,none⟩=some (.int .i64 n.id):=by rw[hW,hb];simp
 have b1:W.cell? ⟨b,1,none⟩=some (.int .i64 n.v):=by rw[hW,hb];simp
 have b2:W.cell? ⟨b,2,none⟩=some (.int .i64 n.lo):=by rw[hW,hb];simp
 have b3:W.cell? ⟨b,3,none⟩=some (.int .i64 n.hi):=by rw[hW,hb];simp
 have b4:W.cell? ⟨b,4,none⟩=some (.int .i64 n.refs):=by rw[hW,hb];simp
 have e1:W.cell? ⟨pb,1,none⟩=some (.slice (some ⟨gs,0,none⟩) p.at_.length cs):=Cq g0 c1;have hd:=Aq.node (hs.keep (fun g hg=>g0.block g (hlt g _ hg)) (fun _ h=>h)) (k:=n.id) h1;obtain⟨d0,d1,d2,d3,d4⟩:=hd;have f0:∀ k,W.frozen? ⟨gs,k,none⟩=false:=(hs.keep (fun g hg=>g0.block g (hlt g _ hg)) (fun _ h=>h)).frozen;have HC:Hq (Chg (· = .slots) o o w W):=by show Chg _ _ _ _ _;rw[hW];exact(Chg.refl _ _ _).alloc _
 have HP:=Hd g3;have HL:=Hd g1;have HI:=Hd hi;have HO:=Hd g2;have HE:=Hd e1;have HW:=Hd hW;have HB:=Hd hb;clear hs ht h hi hlt g2 c0 c1 c2 c3 c4 g0 g3 g1 hW hb;unfold Am
 delta Pt;go_enter func161,ntmps161
 go_wp2_with (fail);rw[<- HW.o,<- HB.o];go_wp2_with (fail);refine(FM o pb p n.id _ HP.o).mono ?_;rintro x w' ⟨rfl,rfl⟩;rw[HI.o];go_wp2_with fail;refine AR (fun w'=>w'=W.drew) true 8 [(0,false),(1,false),(2,false),(3,false),(4,false),(5,false),(6,false),(7,false),(8,true)] (by kernel_rfl) (by kernel_rfl) rfl ?_;simp only[planned,AQ]
 iterate 8
  refine A3 rfl ?_;apply Exists.intro;refine⟨fun w' hw=>?_,?_⟩
  . subst hw;go_simp;rfl
  simp only[Ac]
 refine Dv rfl (fun K hK=>?_);unfold Oper.wp;go_simp;refine hK _ _ (Cj ?_);go_wp2_with fail;go_ret;exact⟨rfl,(HP.o.setNd HL.o HE.o rfl HI.o rfl).drew,(FO HC.o HO.o rfl).drew,HL.o.mono (by simp[set5,World.setCell])⟩
def Ad.reuse (p:Ad)(id:Nat)(n:RN):Ad:={ p with at_:=p.at_.set id { n with id:=id },taken:=p.taken.set id true,free:=p.free.dropLast,many:=p.many+1 }
def Ad.fresh (p:Ad)(n:RN):Ad:={ p with at_:=p.at_++[{ n with id:=p.at_.length }],taken:=p.taken++[true],many:=p.many+1 }
theorem ER {l:List Bool}{b:Bool}(hk:k<l.length)(i:Nat):(l.set k b).getD i false=if i=k then b else l.getD i false:=by
 by_cases e:i=k
 . subst e;simp[List.getD,hk]
 . simp only[List.getD,Xv,WO (X1 e),WO e]
theorem Ad.reuse_get {n:RN}(h1:id<p.at_.length)(h2:id<p.taken.length)(i:Nat):(p.reuse id n).get i=if i=id then some { n with id:=id } else p.get i:=by
 unfold Ad.get;have e1:(p.reuse id n).tk i=if i=id then true else p.tk i:=ER h2 i
 have e2:(p.reuse id n).nd i=if i=id then { n with id:=id } else p.nd i:=De h1 i
 rw[e1,e2]
 by_cases e:i=id<;>simp[e]
theorem Ad.fresh_get {n:RN}(hl:p.taken.length=p.at_.length)(i:Nat):(p.fresh n).get i=if i=p.at_.length then some { n with id:=p.at_.length } else p.get i:=by
 unfold Ad.get Ad.tk Ad.nd Ad.fresh;dsimp only;rcases YP i p.at_.length with h|h|h
 ·have g0:i≠p.at_.length:=by omega
  simp[List.getD,Xj,h,hl,g0]
 . subst h;simp[List.getD,Xu,hl]
 ·have g0:i≠p.at_.length:=by omega
  have h1:p.at_.length<=i:=by omega
  have h2:p.taken.length<=i:=by omega
  have h3:i-p.at_.length≠0:=by omega
  simp[List.getD,Xu,h1,hl,g0,Xb,h3]
theorem Aq.freeCell {o:Own}{m:Nat}(h:RowR o w .free 3 1 (.slice (some ⟨g,0,none⟩) m cap) p.free.length (p.free.map nat64))(hk:p.free[k]?=some x):w.cell? ⟨g,k,none⟩=some (.int .i64 x):=by
 have hl:k<p.free.length:=by
  rcases Xe k p.free.length with h'|h'
  . exact h'
  . rw[Xb h'] at hk;cases hk
 rw[h.cell k (by simpa using hl),XC,hk];rfl
theorem FP {fs:List Nat}:(fs++[id]).dropLast=fs:=by simp
theorem Ad.reuse_tk {n:RN}(h:id<p.taken.length)(i:Nat):(p.reuse id n).tk i=if i=id then true else p.tk i:=ER h i
abbrev Xl:=@List.map_append
abbrev X5:=@List.nodup_append
theorem Aq.toReuse {o:Own}{gs gt cs ct cf:Nat}(h:Aq o w pb p)(hlt:Ab o w){fs:List Nat}{n:RN}(hf:p.free=fs++[id])
 (c1:w.cell? ⟨pb,1,none⟩=some (.slice (some ⟨gs,0,none⟩) p.at_.length cs)) (c2:w.cell? ⟨pb,2,none⟩=some (.slice (some ⟨gt,0,none⟩) p.at_.length ct)) (c3:w.cell? ⟨pb,3,none⟩=some (.slice (some ⟨gf,0,none⟩) (fs.length+1) cf))
 (hcf:fs.length+1<=cf) (hW:Below w.heap.size (w.setCell ⟨pb,3,none⟩ (.slice (some ⟨gf,0,none⟩) fs.length fs.length)) W) :
 Aq o (((set5 W gs id { n with id:=id }).setCell ⟨gt,id,none⟩ (.bool true)).setCell ⟨pb,4,none⟩ (.int .i64 ((p.many+1:Nat):Int))) pb (p.reuse id n) /\
 Chg (fun r=>r=.pool\/r=.slots\/r=.taken\/r=.free) o o w (((set5 W gs id { n with id:=id }).setCell ⟨gt,id,none⟩ (.bool true)).setCell ⟨pb,4,none⟩ (.int .i64 ((p.many+1:Nat):Int))):=by
 obtain⟨vs,vt,vf,h1,h2,h3,h4⟩:=h.blk;have e1:vs=.slice (some ⟨gs,0,none⟩) p.at_.length cs:=by rw[WQ w pb 1 _ _ _ h1] at c1;simpa using c1
 have e2:vt=.slice (some ⟨gt,0,none⟩) p.at_.length ct:=by rw[WQ w pb 2 _ _ _ h1] at c2;simpa using c2
 have e3:vf=.slice (some ⟨gf,0,none⟩) (fs.length+1) cf:=by rw[WQ w pb 3 _ _ _ h1] at c3;simpa using c3
 subst e1 e2 e3;have os:=h2.owner;have ot:=h3.owner;have of:=h4.owner;have ne:∀ {a b r q},o a=some r->o b=some q->r≠q->a≠b:=fun ha hb hr e=>by subst e;rw[ha] at hb;cases hb;exact hr rfl
 obtain⟨i0,i1,i2⟩:=h.free id (by rw[hf];simp);have old:∀ g r,o g=some r->g≠pb->W.heap[g]?=w.heap[g]?:=fun g r hg g0=>(hW.block g (hlt g r hg)).trans (Aw g0 _)
 have g3:W.heap[pb]?=some (.cells #[.int .i64 p.room,.slice (some ⟨gs,0,none⟩) p.at_.length cs,.slice (some ⟨gt,0,none⟩) p.at_.length ct,.slice (some ⟨gf,0,none⟩) fs.length fs.length,.int .i64 p.many] 231 (0,0)) :=
  (hW.block pb (hlt pb _ h.own)).trans (Az h1 _)
 have g2:RowR o W .slots 236 5 (.slice (some ⟨gs,0,none⟩) p.at_.length cs) p.at_.length (p.at_.flatMap rnV):=h2.keep (fun g hg=>old g _ hg (ne hg h.own (by simp))) (fun _ h=>h);have g1:RowR o W .taken 4 1 (.slice (some ⟨gt,0,none⟩) p.at_.length ct) p.taken.length (p.taken.map Value.bool):=h3.keep (fun g hg=>old g _ hg (ne hg h.own (by simp))) (fun _ h=>h);have g4:RowR o W .free 3 1 (.slice (some ⟨gf,0,none⟩) fs.length fs.length) fs.length (fs.map nat64):=by
  have:=(h4.keep (w':=W) (o':=o) (fun g hg=>old g _ hg (ne hg h.own (by simp))) (fun _ h=>h)).shrink (m':=fs.length) (cap':=fs.length) (by rw[hf];simp) (by omega) (WM _);rw[hf,Xl,Nat.mul_one,List.take_left' (by simp)] at this;exact this
 refine⟨⟨h.own,⟨.slice (some ⟨gs,0,none⟩) p.at_.length cs,.slice (some ⟨gt,0,none⟩) p.at_.length ct,.slice (some ⟨gf,0,none⟩) fs.length fs.length,?_,?_,?_,?_⟩,?_,h.room,?_,?_,?_,?_,?_,?_,?_,?_⟩,?_⟩
 . have e:((set5 W gs id { n with id:=id }).setCell ⟨gt,id,none⟩ (.bool true)).heap[pb]?=W.heap[pb]?:=(Aw (ne h.own ot (by simp)) _).trans (B8 (ne h.own os (by simp)));exact Az (e.trans g3) _
 . exact((FN g2 i1 _).setCell_other (p:=⟨gt,id,none⟩) (by rw[ot];simp) _).setCell_other (p:=⟨pb,4,none⟩) (by rw[h.own];simp) _
 . have a1:=(g1.keep (w':=set5 W gs id { n with id:=id }) (o':=o) (fun g hg=>B8 (ne hg os (by simp))) (fun _ h=>h)).stored id (.bool true);have a2:=a1.setCell_other (p:=⟨pb,4,none⟩) (by rw[h.own];simp) (.int .i64 ((p.many+1:Nat):Int));simp only[Ad.reuse,Xi,Yv];exact a2
 . have a1:=((g4.keep (w':=set5 W gs id { n with id:=id }) (o':=o) (fun g hg=>B8 (ne hg os (by simp))) (fun _ h=>h)).setCell_other (p:=⟨gt,id,none⟩) (by rw[ot];simp) (.bool true)).setCell_other (p:=⟨pb,4,none⟩) (by rw[h.own];simp) (.int .i64 ((p.many+1:Nat):Int));simp only[Ad.reuse,hf,FP];exact a1
 . simp only[Ad.reuse,Xi];exact h.len
 . simp only[Ad.reuse,Xi];exact h.top
 . rw[Ad.reuse_tk (by rw[h.len];exact i1),WO (by omega)];exact h.zero
 . simp only[Ad.reuse,Xi];exact h.pos
 ·intro i hi;rw[Ad.reuse_tk (by rw[h.len];exact i1)] at hi;rw[show (p.reuse id n).nd i=if i=id then { n with id:=id } else p.nd i from De i1 i];split
  . rename_i e;exact e.symm
  . rename_i e;rw[WO e] at hi;exact h.id i hi
 . have:=h.many;simp only[Ad.reuse,Xi,hf,FP] at *;simp at this;omega
 . have:=h.nodup;simp only[Ad.reuse,hf,FP] at *;exact(X5.1 this).1
 ·intro i hi;have hn:=h.nodup;simp only[Ad.reuse,hf,FP] at hi hn;have g0:i≠id:=by
   rintro rfl;exact(X5.1 hn).2.2 i hi i (by simp) rfl
  have:=h.free i (by rw[hf];simp[hi]);rw[Ad.reuse_tk (by rw[h.len];exact i1),WO g0];simp only[Ad.reuse,Xi];exact this
 ·have hc:=h.cnt;have:Ah (p.reuse id n).at_.length (fun i=>if (p.reuse id n).tk i=true then 1 else 0)=Ah p.at_.length (fun i=>if p.tk i=true then 1 else 0)+((if (p.reuse id n).tk id=true then 1 else 0)-(if p.tk id=true then 1 else 0)):=by
   have hl:(p.reuse id n).at_.length=p.at_.length:=by simp[Ad.reuse]
   rw[hl];refine Dd (fun i hi=>?_) _ i1;rw[Ad.reuse_tk (by rw[h.len];exact i1),WO hi]
  rw[this,Ad.reuse_tk (by rw[h.len];exact i1),WR rfl,i2,<- hc];simp[Ad.reuse]
 ·have c0:Chg (fun r=>r=.pool\/r=.slots\/r=.taken\/r=.free) o o w W :=
   ((Chg.refl _ o w).setCell (p:=⟨pb,3,none⟩) h.own (.inl rfl) _).trans (Chg.of_below (by simpa [World.setCell,Bw] using hW) _ _)
  exact((FO c0 os (.inr (.inl rfl))).setCell (p:=⟨gt,id,none⟩) ot (.inr (.inr (.inl rfl))) _).setCell (p:=⟨pb,4,none⟩) h.own (.inl rfl) _
abbrev Yi:=@World.frozen?_setCell
theorem OW (o:Own)(pb:Nat)(p:Ad)(n:RN)(fs:List Nat)(id:Nat)(w:Wd)(h:Aq o w pb p)(hlt:Ab o w)(hf:p.free=fs++[id]) :
 Calls prog 198 #[Pt pb,Am n] w fun x w'=>x=.returned (.tuple #[.int .i64 id,.int .i64 0])/\Aq o w' pb (p.reuse id n)/\Chg (fun r=>r=.pool\/r=.slots\/r=.taken\/r=.free) o o w w'/\Ab o w':=by
 obtain⟨vs,vt,vf,c0,c1,c2,c3,c4,hs,ht,ga⟩:=h.cells;have g9:=h.pos;obtain⟨gs,cs,rfl,g6,_⟩:=hs.shape g9;obtain⟨gt,ct,rfl,g4,_⟩:=ht.shape (by rw[h.len];exact g9);obtain⟨gf,cf,rfl,g7,ge,gi⟩:=ga.shape (by rw[hf];simp);have gl:=h.top;have gk:=h.room;have gb:=h.many;have gg:=h.free id (by rw[hf];simp);obtain⟨i0,i1,i2⟩:=gg;have gd:p.free.length=fs.length+1:=by rw[hf];simp
 have d:=Aq.freeCell ga (k:=fs.length) (x:=id) (by rw[hf];simp);have f3:=h.frozen 3;have f4:=h.frozen 4;have fs0:=hs.frozen;have ft0:=ht.frozen id;have n0:=Aq.node hs (k:=id) i1;obtain⟨n0,n1,n2,n3,n4⟩:=n0;have t0:=Aq.flag ht (k:=id) (by rw[h.len];exact i1);rw[gd] at c3 ge;rw[h.len] at c2;have lpb:pb<w.heap.size:=Ag c0;have lgs:gs<w.heap.size:=Ag n0;have lgt:gt<w.heap.size:=Ag t0;have lgf:gf<w.heap.size:=Ag d;have i1':(id:Int)<p.at_.length:=by omega
 have nes:pb≠gs:=by rintro rfl;rw[h.own] at g6;cases g6
 have net:pb≠gt:=by rintro rfl;rw[h.own] at g4;cases g4
 have nef:pb≠gf:=by rintro rfl;rw[h.own] at g7;cases g7
 have nst:gs≠gt:=by rintro rfl;rw[g6] at g4;cases g4
 have HH:=Hd h;have HL:=Hd hlt;have HF:=Hd hf;unfold maxLen at gi;clear h hlt hf hs ht ga gd gb i2 g6 g4 g7;unfold Am
 delta Pt;go_enter func198,ntmps198
 go_wp2_with (fail);obtain⟨W1,g8⟩:=Ex ((w.setCell ⟨pb,3,none⟩ (.slice (some ⟨gf,0,none⟩) fs.length fs.length)).alloc (.cells #[.int .i64 id,.int .i64 n.v,.int .i64 n.lo,.int .i64 n.hi,.int .i64 n.refs] 236));obtain⟨b,hb⟩:=Ex w.heap.size;rw[<- g8,<- hb];have g5:Below w.heap.size (w.setCell ⟨pb,3,none⟩ (.slice (some ⟨gf,0,none⟩) fs.length fs.length)) W1:=by rw[g8];exact(Xd _ _).alloc (by simp[World.setCell]) _
 have g3:=fun W (hW:Below w.heap.size W1 W)=>HH.o.toReuse HL.o HF.o (n:=n) (W:=W) c1 c2 c3 ge (g5.trans hW)
 have hB:W1.heap[b]?=some (.cells #[.int .i64 id,.int .i64 n.v,.int .i64 n.lo,.int .i64 n.hi,.int .i64 n.refs] 236 (0,0)):=by
  rw[g8,hb];have:=WN (w.setCell ⟨pb,3,none⟩ (.slice (some ⟨gf,0,none⟩) fs.length fs.length)) (.cells #[.int .i64 id,.int .i64 n.v,.int .i64 n.lo,.int .i64 n.hi,.int .i64 n.refs] 236);rw[show (w.setCell ⟨pb,3,none⟩ (.slice (some ⟨gf,0,none⟩) fs.length fs.length)).heap.size=w.heap.size by simp[World.setCell]] at this;exact this
 have b0:W1.cell? ⟨b,0,none⟩=some (.int .i64 id):=by rw[WQ W1 b 0 _ _ _ hB];rfl
 have b1:W1.cell? ⟨b,1,none⟩=some (.int .i64 n.v):=by rw[WQ W1 b 1 _ _ _ hB];rfl
 have b2:W1.cell? ⟨b,2,none⟩=some (.int .i64 n.lo):=by rw[WQ W1 b 2 _ _ _ hB];rfl
 have b3:W1.cell? ⟨b,3,none⟩=some (.int .i64 n.hi):=by rw[WQ W1 b 3 _ _ _ hB];rfl
 have b4:W1.cell? ⟨b,4,none⟩=some (.int .i64 n.refs):=by rw[WQ W1 b 4 _ _ _ hB];rfl
 have old:∀ g k,g<w.heap.size->(g≠pb\/k≠3)->W1.cell? ⟨g,k,none⟩=w.cell? ⟨g,k,none⟩:=by
  intro g k hg gc;refine(g5.cell (p:=⟨g,k,none⟩) hg).trans ?_;exact World.cell?_setCell_other w _ _ _ (by intro e;cases e;simp at gc)
 have oldf:∀ g k,g<w.heap.size->g≠pb->W1.frozen? ⟨g,k,none⟩=w.frozen? ⟨g,k,none⟩:=by
  intro g k hg gc;refine(g5.frozen (p:=⟨g,k,none⟩) hg).trans ?_;exact Yi _ _ _ _
 have p1:=(old pb 1 lpb (.inr (by omega))).trans c1;have p2:=(old pb 2 lpb (.inr (by omega))).trans c2;have p4:=(old pb 4 lpb (.inr (by omega))).trans c4;have q0:=(old gs (id*5) lgs (.inl (X1 nes))).trans n0;have q1:=(old gs (id*5+1) lgs (.inl (X1 nes))).trans n1;have q2:=(old gs (id*5+2) lgs (.inl (X1 nes))).trans n2;have q3:=(old gs (id*5+3) lgs (.inl (X1 nes))).trans n3;have q4:=(old gs (id*5+4) lgs (.inl (X1 nes))).trans n4;have qt:=(old gt id lgt (.inl (X1 net))).trans t0;have g0:∀ k,W1.frozen? ⟨gs,k,none⟩=false:=fun k=>(oldf gs k lgs (X1 nes)).trans (fs0 k)
 have g1:W1.frozen? ⟨gt,id,none⟩=false:=(oldf gt id lgt (X1 net)).trans ft0;have g2:W1.frozen? ⟨pb,4,none⟩=false:=by
  refine(g5.frozen (p:=⟨pb,4,none⟩) lpb).trans ?_;rw[Yi];exact f4
 have nbs:b≠gs:=by omega
 have HS:Hq (∀ W:Wd,(∀ g,g≠gs->W.heap[g]?=W1.heap[g]?)->W.cell? ⟨pb,1,none⟩=some (.slice (some ⟨gs,0,none⟩) p.at_.length cs)/\W.cell? ⟨pb,2,none⟩=some (.slice (some ⟨gt,0,none⟩) p.at_.length ct) /\
  W.cell? ⟨b,0,none⟩=some (.int .i64 id)/\W.cell? ⟨b,1,none⟩=some (.int .i64 n.v)/\W.cell? ⟨b,2,none⟩=some (.int .i64 n.lo)/\W.cell? ⟨b,3,none⟩=some (.int .i64 n.hi)/\W.cell? ⟨b,4,none⟩=some (.int .i64 n.refs)):=by
  show ∀ _,_
  intro W hW;have a:=fun g k (hg:g≠gs)=>Xz (w:=W1) (w':=W) (a:=⟨g,k,none⟩) (hW g hg)
  exact⟨(a pb 1 nes).trans p1,(a pb 2 nes).trans p2,(a b 0 nbs).trans b0,(a b 1 nbs).trans b1,(a b 2 nbs).trans b2,(a b 3 nbs).trans b3,(a b 4 nbs).trans b4⟩
 have gh:=Hd g3;have gj:Hq (Ab o W1):=by show Ab _ _;exact HL.o.mono (by have:=g5.size;simpa [World.setCell] using this)
 have gm:p.many<1048577:=by have:=HH.o.many;omega
 have gn:(p.many:Int)+1<9223372036854775807:=by omega
 clear g3 old oldf g5 g8 hb hB n0 n1 n2 n3 n4 t0 c0 c1 c2 c3 c4 d f3 f4 fs0 ft0
 refine AR (fun W:Wd=>W.cell? ⟨pb,1,none⟩=some (.slice (some ⟨gs,0,none⟩) p.at_.length cs)/\W.cell? ⟨pb,2,none⟩=some (.slice (some ⟨gt,0,none⟩) p.at_.length ct) /\
  W.cell? ⟨b,0,none⟩=some (.int .i64 id)/\W.cell? ⟨b,1,none⟩=some (.int .i64 n.v)/\W.cell? ⟨b,2,none⟩=some (.int .i64 n.lo)/\W.cell? ⟨b,3,none⟩=some (.int .i64 n.hi)/\W.cell? ⟨b,4,none⟩=some (.int .i64 n.refs)) true 14
  [(0,false),(1,false),(2,false),(3,false),(4,false),(5,false),(6,false),(7,false),(8,false),(9,false),(10,false),(11,false),(12,true),(13,false),(14,true)] (by kernel_rfl) (by kernel_rfl) (HS.o _ (fun _ _=>rfl)) ?_
 simp only[planned,AQ]
 iterate 12
  refine A3 rfl ?_;apply Exists.intro;refine⟨fun w' hw=>?_,?_⟩
  . obtain⟨h1,h2,h3,h4,h5,h6,h7⟩:=hw;go_simp;rfl
  simp only[Ac]
 refine FK rfl (fun K hK=>?_);unfold Oper.wp;go_simp;refine hK _ _ (HS.o _ (fun g hg=>B8 (w:=W1) (n:=⟨id,n.v,n.lo,n.hi,n.refs⟩) hg)) ?_
 iterate 1
  refine A3 rfl ?_;apply Exists.intro;refine⟨fun w' hw=>?_,?_⟩
  . obtain⟨h1,h2,h3,h4,h5,h6,h7⟩:=hw;go_simp;rfl
  simp only[Ac]
 refine Dv rfl (fun K hK=>?_);unfold Oper.wp;go_simp;refine hK _ _ (Cj ?_);go_wp2_with fail
 go_ret2
 have g3:=gh.o W1 (Xd _ _);rw[show ((p.many+1:Nat):Int)=(p.many:Int)+1 by omega] at g3;exact⟨rfl,g3.1.drew,g3.2.drew,gj.o.mono (by simp[World.setCell])⟩
theorem OX (o:Own)(pb:Nat)(p:Ad)(n:RN)(w:Wd)(h:Aq o w pb p)(hf:p.free=[])(hfull:p.room<p.at_.length) :
 Calls prog 198 #[Pt pb,Am n] w (Bl (.tuple #[.int .i64 0,.int .i64 7]) w):=by
 obtain⟨vs,vt,vf,c0,c1,c2,c3,c4,hs,ht,g0⟩:=h.cells;obtain⟨gs,cs,rfl,_⟩:=hs.shape h.pos;obtain⟨af,cf,rfl,_⟩:=g0.slice;rw[hf] at c3;have g1:(p.room:Int)<p.at_.length:=by omega
 have lpb:pb<w.heap.size:=Ag c0;have g3:=h.top;have g2:=h.room;clear hs ht g0 h hf;unfold Am
 delta Pt;go_enter func198,ntmps198
 go_wp2_with (fail)
 go_quiet (fail)
 go_wp2_with (fail)
 go_ret2
 exact⟨rfl,by first|exact Af w _|exact F6 w _ _⟩
theorem cells5 {a b c d e:Value}(h:w.heap[g]?=some (.cells #[a,b,c,d,e] T (0,0))):w.cell? ⟨g,0,none⟩=some a/\w.cell? ⟨g,1,none⟩=some b/\w.cell? ⟨g,2,none⟩=some c/\w.cell? ⟨g,3,none⟩=some d/\w.cell? ⟨g,4,none⟩=some e/\(∀ k,w.frozen? ⟨g,k,none⟩=false) :=
 ⟨by rw[WQ w g 0 _ _ _ h];rfl,by rw[WQ w g 1 _ _ _ h];rfl,by rw[WQ w g 2 _ _ _ h];rfl,by rw[WQ w g 3 _ _ _ h];rfl,by rw[WQ w g 4 _ _ _ h];rfl,fun k=>by simp[World.frozen?,h]⟩
theorem Ab.none {o:Own}{w:Wd}(h:Ab o w){b:Nat}(hb:w.heap.size<=b):o b=Option.none:=by
 cases e:o b with
 | none=>rfl
 | some r=>have:=h b r e;omega
theorem RowR.below {o:Own}{r:Role}{e:TypeId}{size:Nat}(h:RowR o w r e size v n xs)(hlt:Ab o w)(hb:Bw w w'):RowR o w' r e size v n xs :=
 h.keep (fun g hg=>hb.block g (hlt g r hg)) (fun _ h=>h)
theorem FQ:(prog.info? 236).map (fun i=>(i.zero,i.size,i.bytes))=some (some (.agg #[.int .i64 0,.int .i64 0,.int .i64 0,.int .i64 0,.int .i64 0]),5,40):=by kernel_rfl
theorem Ie:(prog.info? 4).map (fun i=>(i.zero,i.size,i.bytes))=some (some (.bool false),1,1):=by kernel_rfl
abbrev Y2:=@List.length_singleton
theorem Aq.toFresh {o:Own}{gs gt cs ct:Nat}(h:Aq o w pb p){n:RN}(hf:p.free=[])(hr:p.at_.length<=p.room)(hopb:o' pb=some .pool)
 (hpb:W.heap[pb]?=some (.cells #[.int .i64 p.room,.slice (some ⟨gs,0,none⟩) (p.at_.length+1) cs,.slice (some ⟨gt,0,none⟩) (p.at_.length+1) ct,vf,.int .i64 p.many] 231 (0,0)))
 (h2:RowR o' W .slots 236 5 (.slice (some ⟨gs,0,none⟩) (p.at_.length+1) cs) (p.at_.length+1) ((p.at_++[rn0]).flatMap rnV))
 (h3:RowR o' W .taken 4 1 (.slice (some ⟨gt,0,none⟩) (p.at_.length+1) ct) (p.at_.length+1) ((p.taken++[false]).map Value.bool))
 (h4:RowR o' W .free 3 1 vf p.free.length (p.free.map nat64)) :
 Aq o' (((set5 W gs p.at_.length { n with id:=p.at_.length }).setCell ⟨gt,p.at_.length,none⟩ (.bool true)).setCell ⟨pb,4,none⟩ (.int .i64 ((p.many+1:Nat):Int))) pb (p.fresh n) /\
 Chg (fun r=>r=.pool\/r=.slots\/r=.taken\/r=.free) o' o' W (((set5 W gs p.at_.length { n with id:=p.at_.length }).setCell ⟨gt,p.at_.length,none⟩ (.bool true)).setCell ⟨pb,4,none⟩ (.int .i64 ((p.many+1:Nat):Int))):=by
 have os:=h2.owner;have ot:=h3.owner;have ne:∀ {a b r q},o' a=some r->o' b=some q->r≠q->a≠b:=fun ha hb hr e=>by subst e;rw[ha] at hb;cases hb;exact hr rfl
 have hl:p.taken.length=p.at_.length:=h.len;have g2:(p.at_++[rn0]).set p.at_.length { n with id:=p.at_.length }=p.at_++[{ n with id:=p.at_.length }]:=by
  rw[Zp _ _ (WM _)];simp
 have g0:∀ i,(p.fresh n).tk i=(p.tk i||i == p.at_.length):=by
  intro i;unfold Ad.tk Ad.fresh;dsimp only;rcases YP i p.taken.length with h'|h'|h'
  ·have g1:i≠p.at_.length:=by omega
   simp[List.getD,Xj,h',g1]
  . subst h';simp[List.getD,hl]
  ·have g1:i≠p.at_.length:=by omega
   have h1:i-p.taken.length≠0:=by omega
   have h0:p.taken.length<=i:=by omega
   simp[List.getD,Xu,h0,g1,h1]
 have g4:∀ i,i≠p.at_.length->(p.fresh n).nd i=p.nd i:=by
  intro i hi;unfold Ad.nd Ad.fresh;dsimp only;rcases Xe i p.at_.length with h'|h'
  . simp[List.getD,Xj,h']
  ·have h1:i-p.at_.length≠0:=by omega
   simp[List.getD,Xu,h',h1]
 refine⟨⟨hopb,⟨.slice (some ⟨gs,0,none⟩) (p.at_.length+1) cs,.slice (some ⟨gt,0,none⟩) (p.at_.length+1) ct,vf,?_,?_,?_,?_⟩,?_,h.room,?_,?_,?_,?_,?_,?_,?_,?_⟩,?_⟩
 . have e:((set5 W gs p.at_.length { n with id:=p.at_.length }).setCell ⟨gt,p.at_.length,none⟩ (.bool true)).heap[pb]?=W.heap[pb]?:=(Aw (ne hopb ot (by simp)) _).trans (B8 (ne hopb os (by simp)));exact Az (e.trans hpb) _
 . have a0:=FN (l:=p.at_++[rn0]) (by simpa using h2) (k:=p.at_.length) (by simp) { n with id:=p.at_.length };have a1:=(a0.setCell_other (p:=⟨gt,p.at_.length,none⟩) (by rw[ot];simp) (.bool true)).setCell_other (p:=⟨pb,4,none⟩) (by rw[hopb];simp) (.int .i64 ((p.many+1:Nat):Int));rw[g2] at a1;simpa [Ad.fresh] using a1
 . have a1:=(h3.keep (w':=set5 W gs p.at_.length { n with id:=p.at_.length }) (o':=o') (fun g hg=>B8 (ne hg os (by simp))) (fun _ h=>h)).stored p.at_.length (.bool true);have a2:=a1.setCell_other (p:=⟨pb,4,none⟩) (by rw[hopb];simp) (.int .i64 ((p.many+1:Nat):Int));rw[<- hl,Xl,Zp _ _ (by simp)] at a2;simp only[Ad.fresh,WY,Y2,Xl];simpa [hl] using a2
 . exact((h4.keep (w':=set5 W gs p.at_.length { n with id:=p.at_.length }) (o':=o') (fun g hg=>B8 (ne hg os (by simp))) (fun _ h=>h)).setCell_other (p:=⟨gt,p.at_.length,none⟩) (by rw[ot];simp) (.bool true)).setCell_other (p:=⟨pb,4,none⟩) (by rw[hopb];simp) (.int .i64 ((p.many+1:Nat):Int))
 . simp[Ad.fresh,hl]
 . simp only[Ad.fresh,WY,Y2];omega
 . rw[g0];have:=h.pos;simp[h.zero];omega
 . simp[Ad.fresh]
 ·intro i hi
  by_cases e:i=p.at_.length
  . subst e;simp[Ad.nd,Ad.fresh,List.getD]
  . rw[g4 i e];rw[g0] at hi;simp[e] at hi;exact h.id i hi
 . have:=h.many;simp only[Ad.fresh,WY,Y2];omega
 . exact h.nodup
 . intro i hi;have:i∈p.free:=hi;rw[hf] at this;cases this
 ·have e1:(p.fresh n).at_.length=p.at_.length+1:=by simp[Ad.fresh]
  have g3:∀ i,i<p.at_.length->(if (p.fresh n).tk i=true then (1:Int) else 0)=if p.tk i=true then 1 else 0:=by
   intro i hi;have g1:(i == p.at_.length)=false:=by simp;omega
   rw[g0,g1];simp
  rw[e1,Ah,Bs (g:=fun i=>if p.tk i=true then 1 else 0) p.at_.length g3,<- h.cnt,g0];simp[Ad.fresh]
 . exact((FO (Chg.refl _ _ _) os (.inr (.inl rfl))).setCell (p:=⟨gt,p.at_.length,none⟩) ot (.inr (.inr (.inl rfl))) _).setCell (p:=⟨pb,4,none⟩) hopb (.inl rfl) _
theorem If (T e ty:TypeId)(size bytes:Nat)(z:Value)(hT:prog.underlying T=some (.slice e))(he:(prog.info? e).map (fun i=>(i.zero,i.size,i.bytes))=some (some z,size,bytes))(hzs:z.cells.size=size)(hsz:0<size)
 {wr:Wd} {o:Own} {r:Role} {v:Value} {n:Nat} {xs:List Value} (news:Array Value) (hl:news.size=size) (h1:∀ u∈news.toList,u.oneCell'=true) (h:RowR o wr r e size v n xs) (hlt:Ab o wr) (hn:n<1000000000) (hb:bytes<=10000) :
 ∃ g cap w' o',(Builtin.append_ #[T,T] ty #[v,.slice (some ⟨wr.heap.size,0,none⟩) 1 1]).run prog (wr.alloc (.cells news e))=.ok (.slice (some ⟨g,0,none⟩) (n+1) cap) w' /\
  RowR o' w' r e size (.slice (some ⟨g,0,none⟩) (n+1) cap) (n+1) (xs++news.toList)/\Chg (· = r) o o' wr w'/\Ab o' w':=by
 obtain⟨i,hi,hz,g1,g6⟩:=Y9 he;have g0:Bw wr (wr.alloc (.cells news e)):=Af _ _;have g4:RowR o (wr.alloc (.cells news e)) r e size v n xs:=h.keep (fun g hg=>g0.block g (hlt g r hg)) (fun _ h=>h);have g2:∀ j u,news.toList[j]?=some u->(wr.alloc (.cells news e)).cell? ((⟨wr.heap.size,0,none⟩:Addr).add j)=some u:=by
  intro j u hu;have g3:(⟨wr.heap.size,0,none⟩:Addr).add j=⟨wr.heap.size,j,none⟩:=by unfold Addr.add;split<;>simp_all
  rw[g3,WQ _ _ _ _ _ _ (WN wr _)];simpa using hu
 have g5:(n+1)*bytes<=140737488355328:=WU (Nat.mul_le_mul (show n+1<=1000000000 by omega) hb) (by decide);obtain⟨v',w',o',a0,a1,a2,a3⟩:=g4.append (P:=prog) (hlt.mono g0.size) T ty i z bytes hT hi hz g1 g6 hzs hsz ⟨wr.heap.size,0,none⟩ 1 1 news.toList (by simpa using hl) g2 h1 (by unfold maxLen;omega) g5;obtain⟨g,cap,rfl,_⟩:=a1.shape (by omega);exact⟨g,cap,w',o',a0,a1,(Chg.of_below g0 _ _).trans a2,a3⟩
theorem ES (T e:TypeId)(size bytes:Nat)(z:Value)(hT:prog.underlying T=some (.slice e))(he:(prog.info? e).map (fun i=>(i.zero,i.size,i.bytes))=some (some z,size,bytes))(hzs:z.cells.size=size)(hsz:0<size)
 {wr:Wd} {ops:Array Oper} {rest:List Oper} {op:Oper} {a:Act} {Q:Exit->Act->Wd->Prop} {W:Wd} (hgd:op.guard=none) (s x:Operand)
 (hop:op.op=.call { callee:=.builtin .append,args:=#[s,x],argTypes:=#[T,T] })
 {o:Own} {r:Role} {v:Value} {n:Nat} {xs:List Value} (hs:a.eval s=v) {N:Nat} (hx:a.eval x=.slice (some ⟨N,0,none⟩) 1 1) {news:Array Value}
 (hW:W=wr.alloc (.cells news e)) (hN:N=wr.heap.size) (hl:news.size=size) (h1:∀ u∈news.toList,u.oneCell'=true) (h:RowR o wr r e size v n xs) (hlt:Ab o wr) (hn:n<1000000000) (hb:bytes<=10000)
 (hK:∀ g cap w' o',RowR o' w' r e size (.slice (some ⟨g,0,none⟩) (n+1) cap) (n+1) (xs++news.toList)->Chg (· = r) o o' wr w'->Ab o' w'->wpList prog ops Q rest (a.put op.dst (.slice (some ⟨g,0,none⟩) (n+1) cap)) w'):wpList prog ops Q (op::rest) a W:=by
 subst hN;subst hW
 obtain⟨g,cap,w',o',hr,h2,h3,h4⟩:=If T e op.type size bytes z hT he hzs hsz news hl h1 h hlt hn hb;refine wpList_plain hgd fun K g0=>?_
 unfold Oper.wp execOp;simp only[hop,resolve,invoke,builtin,XH,Sem.run_pure,Xs,List.map_toArray,XJ,Zh,hs,hx,hr];exact g0 _ _ (hK g cap w' o' h2 h3 h4)
structure Df (o:Own)(w:Wd)(p:Ad)(n:RN)(b pb:Nat)(vs vt vf:Value)(nl nt:Nat)(xs:List Value)(bs:List Value)(o1:Own)(wx:Wd):Prop where
 fpb:wx.heap[pb]?=some (.cells #[.int .i64 p.room,vs,vt,vf,.int .i64 p.many] 231 (0,0))
 box:wx.heap[b]?=some (.cells #[.int .i64 n.id,.int .i64 n.v,.int .i64 n.lo,.int .i64 n.hi,.int .i64 n.refs] 236 (0,0))
 slots:RowR o1 wx .slots 236 5 vs nl xs
 taken:RowR o1 wx .taken 4 1 vt nt bs
 free:RowR o1 wx .free 3 1 vf p.free.length (p.free.map nat64)
 chg:Chg (fun r=>r=.pool\/r=.slots\/r=.taken\/r=.free) o o1 w wx
 lt:Ab o1 wx
 ob:o1 b=none
 op:o1 pb=some .pool
theorem Df.grown1 {o:Own}{n:RN}{vs vt vs':Value}{nl nt nl':Nat}{bs xs':List Value}{wy:Wd}(h:Df o w p n b pb vs vt vf nl nt xs bs o1 wx)
 (hr:RowR o2 wy .slots 236 5 vs' nl' xs') (hc:Chg (· = .slots) o1 o2 wx wy) (hl:Ab o2 wy):Df o w p n b pb vs' vt vf nl' nt xs' bs o2 (wy.setCell ⟨pb,1,none⟩ vs'):=by
 have g0:=hc.ext _ _ h.op;have g1:b<wx.heap.size:=(WL.1 h.box).1;have g2:=hc.alien' g1 h.ob;have npb:b≠pb:=by intro e;have h1:=h.op;rw[<- e,h.ob] at h1;cases h1
 exact⟨Az ((hc.same h.lt h.op (by simp)).trans h.fpb) _,(Aw npb _).trans ((hc.alien g1 h.ob).trans h.box),hr.setCell_other (by rw[g0];simp) _,(h.taken.chg hc h.lt (by simp)).setCell_other (by rw[g0];simp) _,
  (h.free.chg hc h.lt (by simp)).setCell_other (by rw[g0];simp) _,(h.chg.trans (hc.mono fun r e=>.inr (.inl e))).setCell (p:=⟨pb,1,none⟩) g0 (.inl rfl) _,hl.mono (by simp[World.setCell]),g2,g0⟩
theorem Df.grown2 {o:Own}{n:RN}{vs vt vt':Value}{nl nt nt':Nat}{bs bs':List Value}{wy:Wd}(h:Df o w p n b pb vs vt vf nl nt xs bs o1 wx)
 (hr:RowR o2 wy .taken 4 1 vt' nt' bs') (hc:Chg (· = .taken) o1 o2 wx wy) (hl:Ab o2 wy):Df o w p n b pb vs vt' vf nl nt' xs bs' o2 (wy.setCell ⟨pb,2,none⟩ vt'):=by
 have g0:=hc.ext _ _ h.op;have g1:b<wx.heap.size:=(WL.1 h.box).1;have g2:=hc.alien' g1 h.ob;have npb:b≠pb:=by intro e;have h1:=h.op;rw[<- e,h.ob] at h1;cases h1
 exact⟨Az ((hc.same h.lt h.op (by simp)).trans h.fpb) _,(Aw npb _).trans ((hc.alien g1 h.ob).trans h.box),(h.slots.chg hc h.lt (by simp)).setCell_other (by rw[g0];simp) _,hr.setCell_other (by rw[g0];simp) _,
  (h.free.chg hc h.lt (by simp)).setCell_other (by rw[g0];simp) _,(h.chg.trans (hc.mono fun r e=>.inr (.inr (.inl e)))).setCell (p:=⟨pb,2,none⟩) g0 (.inl rfl) _,hl.mono (by simp[World.setCell]),g2,g0⟩
abbrev YC:=@List.flatMap_append
theorem OY (o:Own)(pb:Nat)(p:Ad)(n:RN)(w:Wd)(h:Aq o w pb p)(hlt:Ab o w)(hf:p.free=[])(hroom1:p.at_.length<=p.room) :
 Calls prog 198 #[Pt pb,Am n] w fun x w'=>x=.returned (.tuple #[.int .i64 p.at_.length,.int .i64 0])/\∃ o',Aq o' w' pb (p.fresh n)/\Chg (fun r=>r=.pool\/r=.slots\/r=.taken\/r=.free) o o' w w'/\Ab o' w':=by
 have gz:=h.blk;obtain⟨vs,vt,vf,gd,hs,ht,gn⟩:=gz;obtain⟨gs,cs,rfl,gB,_⟩:=hs.shape h.pos;obtain⟨gt,ct,rfl,gA,_⟩:=ht.shape (by rw[h.len];exact h.pos);obtain⟨af,cf,rfl,_⟩:=gn.slice;rw[h.len,hf] at gd;rw[h.len] at ht;obtain⟨c0,c1,c2,c3,c4,f0⟩:=cells5 gd;have gD:¬ (p.room:Int)<p.at_.length:=by omega
 have lpb:pb<w.heap.size:=Ag c0;have gH:=h.top;have gG:=h.room;have HH:=Hd h;have HL:=Hd hlt;have HS:=Hd hs;have HT:=Hd ht;have HF:=Hd gn;have gF:=Hd h.own;have gy:=Hd hf;have gq:=Hd h.len;have gE:=Hd gd;obtain⟨in_,gu,gh,gi,gj⟩:=Y9 FQ;obtain⟨ib,gv,gk,gl,gm⟩:=Y9 Ie;have gK:=Hd (⟨gu,gh,gi,gj⟩:_/\_/\_/\_);have gL:=Hd (⟨gv,gk,gl,gm⟩:_/\_/\_/\_);clear hs ht gn h hf hlt gB gA gd gu gh gi gj gv gk gl gm;unfold Am
 delta Pt;go_enter func198,ntmps198
 go_wp2_with (fail)
 go_quiet (fail)
 have g7:Bw w ((w.alloc (.cells #[.int .i64 n.id,.int .i64 n.v,.int .i64 n.lo,.int .i64 n.hi,.int .i64 n.refs] 236)).drewN nq):=F6 w nq _;have ge:((w.alloc (.cells #[.int .i64 n.id,.int .i64 n.v,.int .i64 n.lo,.int .i64 n.hi,.int .i64 n.refs] 236)).drewN nq).heap[w.heap.size]?=some (.cells #[.int .i64 n.id,.int .i64 n.v,.int .i64 n.lo,.int .i64 n.hi,.int .i64 n.refs] 236 (0,0)):=WN w _;have gg:((w.alloc (.cells #[.int .i64 n.id,.int .i64 n.v,.int .i64 n.lo,.int .i64 n.hi,.int .i64 n.refs] 236)).drewN nq).heap.size=w.heap.size+1:=by simp
 obtain⟨wq,gr⟩:=Ex ((w.alloc (.cells #[.int .i64 n.id,.int .i64 n.v,.int .i64 n.lo,.int .i64 n.hi,.int .i64 n.refs] 236)).drewN nq);rw[<- gr] at g7 ge gg ⊢;obtain⟨b,hb⟩:=Ex w.heap.size;rw[<- hb] at ge gg ⊢;have hS:Df o w p n b pb (.slice (some ⟨gs,0,none⟩) p.at_.length cs) (.slice (some ⟨gt,0,none⟩) p.at_.length ct) (.slice af 0 cf) p.at_.length p.at_.length (p.at_.flatMap rnV) (p.taken.map Value.bool) o wq :=
  ⟨(g7.block pb lpb).trans gE.o,ge,HS.o.below HL.o g7,HT.o.below HL.o g7,by have:=HF.o.below HL.o g7;rw[gy.o] at this ⊢;exact this,(Chg.of_below g7 _ _),HL.o.mono g7.size,HL.o.none (by omega),gF.o⟩
 have g0:=Hd hS;have HB:=Hd hb;clear c0 c1 c2 c3 c4 f0 gr hS hb ge g7 gg lpb;obtain⟨c0,c1,c2,c3,c4,f0⟩:=cells5 g0.o.fpb;have lpb:pb<wq.heap.size:=Ag c0;go_upto_region 10 with fail
 go_cut [4] (fun s4 wx=>s4=.int .i64 p.at_.length/\∃ g1 k1 o1,Df o w p n b pb (.slice (some ⟨g1,0,none⟩) (p.at_.length+1) k1) (.slice (some ⟨gt,0,none⟩) p.at_.length ct) (.slice af 0 cf) (p.at_.length+1) p.at_.length (p.at_.flatMap rnV++[.int .i64 0,.int .i64 0,.int .i64 0,.int .i64 0,.int .i64 0]) (p.taken.map Value.bool) o1 wx)
 case first =>
  go_wp2_with (at_builtin
               refine ES 229 236 5 40 _ underlying229 FQ rfl (by decide) rfl _ _ rfl rfl rfl rfl (by simp) rfl (by decide) g0.o.slots g0.o.lt (by omega) (by decide) ?_;intro g1 k1 w1 o1 ga g3 g6;obtain⟨q0,q1,q2,q3,q4,fq⟩:=cells5 ((g3.same g0.o.lt g0.o.op (by simp)).trans g0.o.fpb);have gp:=Hd ga;have gc:=Hd g3;have gb:=Hd g6;clear ga g3 g6 c0 c1 c2 c3 c4 f0)
  go_meet;exact⟨rfl,g1,k1,o1,g0.o.grown1 gp.o gc.o gb.o⟩
 case rest =>
  obtain⟨rfl,g1,k1,o1,hS⟩:=hcut;clear c0 c1 c2 c3 c4 f0 lpb g0
  rename Wd=>wr
  have g0:=Hd hS;obtain⟨c0,c1,c2,c3,c4,f0⟩:=cells5 hS.fpb;have lpb:pb<wr.heap.size:=Ag c0;clear hS;go_upto_region 11 with fail
  go_cut [4] (fun s4 wx=>s4=.int .i64 p.at_.length/\∃ g1 k1 g2 k2 o1,Df o w p n b pb (.slice (some ⟨g1,0,none⟩) (p.at_.length+1) k1) (.slice (some ⟨g2,0,none⟩) (p.at_.length+1) k2) (.slice af 0 cf) (p.at_.length+1) (p.at_.length+1) (p.at_.flatMap rnV++[.int .i64 0,.int .i64 0,.int .i64 0,.int .i64 0,.int .i64 0]) (p.taken.map Value.bool++[.bool false]) o1 wx)
  case first =>
   go_wp2_with (at_builtin
                refine ES 54 4 1 1 _ underlying54 Ie rfl (by decide) rfl _ _ rfl rfl rfl rfl (by simp) rfl (by decide) g0.o.taken g0.o.lt (by omega) (by decide) ?_;intro g2 k2 w2 o2 ga g3 g6;obtain⟨q0,q1,q2,q3,q4,fq⟩:=cells5 ((g3.same g0.o.lt g0.o.op (by simp)).trans g0.o.fpb);have gp:=Hd ga;have gc:=Hd g3;have gb:=Hd g6;clear ga g3 g6 c0 c1 c2 c3 c4 f0)
   go_meet;exact⟨rfl,g1,k1,g2,k2,o2,g0.o.grown2 gp.o gc.o gb.o⟩
  case rest =>
   obtain⟨rfl,g1,k1,g2,k2,o1,hS⟩:=hcut;clear c0 c1 c2 c3 c4 f0 lpb g0
   rename Wd=>w3
   have g0:=Hd hS;obtain⟨c0,c1,c2,c3,c4,f0⟩:=cells5 hS.fpb;obtain⟨b0,b1,b2,b3,b4,fb⟩:=cells5 hS.box;have lpb:pb<w3.heap.size:=Ag c0;have lb:b<w3.heap.size:=Ag b0;have npb:pb≠b:=by intro e;have h1:=hS.op;rw[e,hS.ob] at h1;cases h1
   clear hS;go_upto_region 13 with fail;obtain⟨W1,g4⟩:=Ex (w3.setCell ⟨b,0,none⟩ (.int .i64 p.at_.length));rw[<- g4];have go:W1.heap[b]?=some (.cells #[.int .i64 p.at_.length,.int .i64 n.v,.int .i64 n.lo,.int .i64 n.hi,.int .i64 n.refs] 236 (0,0)):=by rw[g4];exact Az g0.o.box _
   have g9:=(Aw (p:=⟨b,0,none⟩) npb (.int .i64 p.at_.length:Value)).trans g0.o.fpb;rw[<- g4] at g9;have g3:Chg (fun r=>r=.pool\/r=.slots\/r=.taken\/r=.free) o o1 w W1:=by
    rw[g4];exact g0.o.chg.setCell_new (p:=⟨b,0,none⟩) (by rw[HB.o];exact WM _) _
   have gf:∀ r,o1 (⟨b,0,none⟩:Addr).block≠some r:=by intro r e;rw[show o1 (⟨b,0,none⟩:Addr).block=o1 b from rfl,g0.o.ob] at e;cases e
   have hs1:RowR o1 W1 .slots 236 5 (.slice (some ⟨g1,0,none⟩) (p.at_.length+1) k1) (p.at_.length+1) ((p.at_++[rn0]).flatMap rnV):=by
    rw[g4,YC];exact g0.o.slots.setCell_other (gf _) _
   have g8:RowR o1 W1 .taken 4 1 (.slice (some ⟨g2,0,none⟩) (p.at_.length+1) k2) (p.at_.length+1) ((p.taken++[false]).map Value.bool):=by
    rw[g4,Xl];exact g0.o.taken.setCell_other (gf _) _
   have gw:RowR o1 W1 .free 3 1 (.slice af 0 cf) p.free.length (p.free.map nat64):=by rw[g4];exact g0.o.free.setCell_other (gf _) _
   have g6:Ab o1 W1:=by rw[g4];exact g0.o.lt.mono (by simp[World.setCell])
   have g5:=HH.o.toFresh (n:=n) gy.o hroom1 g0.o.op g9 hs1 g8 gw;have ne:∀ {a b r q},o1 a=some r->o1 b=some q->r≠q->a≠b:=fun ha hb hr e=>by subst e;rw[ha] at hb;cases hb;exact hr rfl
   have nps:pb≠g1:=ne g0.o.op hs1.owner (by simp);have npt:pb≠g2:=ne g0.o.op g8.owner (by simp);have nst:g1≠g2:=ne hs1.owner g8.owner (by simp);have nbs:b≠g1:=by intro e;have h1:=hs1.owner;rw[<- e,g0.o.ob] at h1;cases h1
   obtain⟨s0,s1,s2,s3,s4⟩:=Aq.node (p:={ p with at_:=p.at_++[rn0] }) (k:=p.at_.length) (by simpa using hs1) (by simp);have fg1:=hs1.frozen;have t0:=Aq.flag (p:={ p with taken:=p.taken++[false] }) (k:=p.at_.length) (by simpa [gq.o] using g8) (by simp[gq.o]);have fg2:=g8.frozen p.at_.length;clear c0 c1 c2 c3 c4 f0 b0 b1 b2 b3 b4 fb lpb lb ne;obtain⟨c0,c1,c2,c3,c4,f0⟩:=cells5 g9;obtain⟨b0,b1,b2,b3,b4,fb⟩:=cells5 go
   have gx:Hq (∀ W:Wd,(∀ g,g≠g1->W.heap[g]?=W1.heap[g]?)->W.cell? ⟨pb,1,none⟩=some (.slice (some ⟨g1,0,none⟩) (p.at_.length+1) k1)/\W.cell? ⟨pb,2,none⟩=some (.slice (some ⟨g2,0,none⟩) (p.at_.length+1) k2) /\
    W.cell? ⟨b,0,none⟩=some (.int .i64 p.at_.length)/\W.cell? ⟨b,1,none⟩=some (.int .i64 n.v)/\W.cell? ⟨b,2,none⟩=some (.int .i64 n.lo)/\W.cell? ⟨b,3,none⟩=some (.int .i64 n.hi)/\W.cell? ⟨b,4,none⟩=some (.int .i64 n.refs)):=by
    show ∀ _,_
    intro W hW;have a:=fun g k (hg:g≠g1)=>Xz (w:=W1) (w':=W) (a:=⟨g,k,none⟩) (hW g hg)
    exact⟨(a pb 1 nps).trans c1,(a pb 2 nps).trans c2,(a b 0 nbs).trans b0,(a b 1 nbs).trans b1,(a b 2 nbs).trans b2,(a b 3 nbs).trans b3,(a b 4 nbs).trans b4⟩
   have gC:=Hd g5;have gc:=Hd g3;have gb:=Hd g6;have gI:(p.many:Int)+1<9223372036854775807:=by have:=HH.o.many;omega
   have gJ:(p.at_.length:Int)<(p.at_.length:Int)+1:=by omega
   clear g5 g3 g6 hs1 g8 gw go g9 gf g4 c0 c1 c2 c3 b0 b1 b2 b3 b4 fb g0
   refine AR (fun W:Wd=>W.cell? ⟨pb,1,none⟩=some (.slice (some ⟨g1,0,none⟩) (p.at_.length+1) k1)/\W.cell? ⟨pb,2,none⟩=some (.slice (some ⟨g2,0,none⟩) (p.at_.length+1) k2) /\
    W.cell? ⟨b,0,none⟩=some (.int .i64 p.at_.length)/\W.cell? ⟨b,1,none⟩=some (.int .i64 n.v)/\W.cell? ⟨b,2,none⟩=some (.int .i64 n.lo)/\W.cell? ⟨b,3,none⟩=some (.int .i64 n.hi)/\W.cell? ⟨b,4,none⟩=some (.int .i64 n.refs)) true 14
    [(0,false),(1,false),(2,false),(3,false),(4,false),(5,false),(6,false),(7,false),(8,false),(9,false),(10,false),(11,false),(12,true),(13,false),(14,true)] (by kernel_rfl) (by kernel_rfl) (gx.o _ (fun _ _=>rfl)) ?_
   simp only[planned,AQ]
   iterate 12
    refine A3 rfl ?_;apply Exists.intro;refine⟨fun w' hw=>?_,?_⟩
    . obtain⟨h1,h2,h3,h4,h5,h6,h7⟩:=hw;go_simp;rfl
    simp only[Ac]
   refine FK rfl (fun K hK=>?_);unfold Oper.wp;go_simp;refine hK _ _ (gx.o _ (fun g hg=>B8 (w:=W1) (n:=⟨p.at_.length,n.v,n.lo,n.hi,n.refs⟩) hg)) ?_
   iterate 1
    refine A3 rfl ?_;apply Exists.intro;refine⟨fun w' hw=>?_,?_⟩
    . obtain⟨h1,h2,h3,h4,h5,h6,h7⟩:=hw;go_simp;rfl
    simp only[Ac]
   refine Dv rfl (fun K hK=>?_);unfold Oper.wp;go_simp;refine hK _ _ (Cj ?_);go_wp2_with fail
   go_ret2
   have g5:=gC.o;rw[show ((p.many+1:Nat):Int)=(p.many:Int)+1 by omega] at g5;exact⟨rfl,o1,g5.1.drew,(gc.o.trans g5.2).drew,gb.o.mono (by simp[World.setCell])⟩
theorem Cw (hc:w.cell? ⟨g,k,none⟩=some u)(hf:w.frozen? ⟨g,k,none⟩=false)(h1:v.oneCell'=true):(store ⟨g,k,none⟩ v).run P w=.ok () (w.setCell ⟨g,k,none⟩ v):=by
 rw[run_store P w _ v _ h1,hc];simp[hf]
theorem AU {p q:Addr}(h:w.cell? q=some u):∃ u',(w.setCell p v).cell? q=some u':=by
 by_cases e:p=q
 . subst e;exact⟨v,World.cell?_setCell_same' _ _ _ (by rw[h];rfl)⟩
 . exact⟨u,by rw[World.cell?_setCell_other w p q v e];exact h⟩
theorem OZ:(prog.info? 236).map (fun i=>i.size)=some 5:=by kernel_rfl
abbrev XM:=@Option.map_some
theorem Dw (f:∀ j,w.frozen? ⟨g,j,none⟩=false){u0 u1 u2 u3 u4:Value}(c0:w.cell? ⟨g,k*5,none⟩=some u0)(c1:w.cell? ⟨g,k*5+1,none⟩=some u1)(c2:w.cell? ⟨g,k*5+2,none⟩=some u2)(c3:w.cell? ⟨g,k*5+3,none⟩=some u3)(c4:w.cell? ⟨g,k*5+4,none⟩=some u4)(a b c d e:Int) :
 (Instr.storeAt 236 (.pointer (some ⟨g,k*5,none⟩)) (.agg #[.int .i64 a,.int .i64 b,.int .i64 c,.int .i64 d,.int .i64 e])).run prog w =
  .ok () (((((w.setCell ⟨g,k*5,none⟩ (.int .i64 a)).setCell ⟨g,k*5+1,none⟩ (.int .i64 b)).setCell ⟨g,k*5+2,none⟩ (.int .i64 c)).setCell ⟨g,k*5+3,none⟩ (.int .i64 d)).setCell ⟨g,k*5+4,none⟩ (.int .i64 e)):=by
 have s:=OZ;have g0:∀ j,(⟨g,k*5,none⟩:Addr).add j=⟨g,k*5+j,none⟩:=fun j=>by unfold Addr.add;split<;>simp_all
 have g1:(Instr.sureAddr (Value.pointer (some ⟨g,k*5,none⟩))).run prog w=.ok ⟨g,k*5,none⟩ w:=rfl;cases hi:prog.info? 236 with
 | none=>rw[hi] at s;cases s
 | some i =>
   rw[hi] at s;simp only[XM,X0] at s;have fz:∀ (w':Wd) p v j,(w'.setCell p v).frozen? ⟨g,j,none⟩=w'.frozen? ⟨g,j,none⟩:=fun w' p v j=>Yi _ _ _ _
   obtain⟨v1,e1⟩:=AU (p:=⟨g,k*5,none⟩) (v:=.int .i64 a) c1;obtain⟨v2,e2⟩:=AU (p:=⟨g,k*5,none⟩) (v:=.int .i64 a) c2;obtain⟨v2,e2⟩:=AU (p:=⟨g,k*5+1,none⟩) (v:=.int .i64 b) e2;obtain⟨v3,e3⟩:=AU (p:=⟨g,k*5,none⟩) (v:=.int .i64 a) c3;obtain⟨v3,e3⟩:=AU (p:=⟨g,k*5+1,none⟩) (v:=.int .i64 b) e3;obtain⟨v3,e3⟩:=AU (p:=⟨g,k*5+2,none⟩) (v:=.int .i64 c) e3;obtain⟨v4,e4⟩:=AU (p:=⟨g,k*5,none⟩) (v:=.int .i64 a) c4;obtain⟨v4,e4⟩:=AU (p:=⟨g,k*5+1,none⟩) (v:=.int .i64 b) e4;obtain⟨v4,e4⟩:=AU (p:=⟨g,k*5+2,none⟩) (v:=.int .i64 c) e4;obtain⟨v4,e4⟩:=AU (p:=⟨g,k*5+3,none⟩) (v:=.int .i64 d) e4;have s0:=Cw (P:=prog) (v:=.int .i64 a) c0 (f _) rfl;have s1:=Cw (P:=prog) (v:=.int .i64 b) e1 (by rw[fz];exact f _) rfl;have s2:=Cw (P:=prog) (v:=.int .i64 c) e2 (by rw[fz,fz];exact f _) rfl;have s3:=Cw (P:=prog) (v:=.int .i64 d) e3 (by rw[fz,fz,fz];exact f _) rfl;have s4:=Cw (P:=prog) (v:=.int .i64 e) e4 (by rw[fz,fz,fz,fz];exact f _) rfl;simp only[Instr.storeAt,XH,g1,Xs];simp[storeVar,sizeOf,typeInfo,hi,s,Value.cells,storeCells,g0,s0,s1,s2,s3,s4]
theorem ET (hs:(P.info? T).map (fun i=>i.size)=some 1)(hc:w.cell? ⟨g,k,none⟩=some u)(hf:w.frozen? ⟨g,k,none⟩=false)(h1:v.oneCell'=true)(hv:v.cells=#[v]) :
 (Instr.storeAt T (.pointer (some ⟨g,k,none⟩)) v).run P w=.ok () (w.setCell ⟨g,k,none⟩ v):=by
 have g1:(Instr.sureAddr (Value.pointer (some ⟨g,k,none⟩))).run P w=.ok ⟨g,k,none⟩ w:=rfl;have g0:(⟨g,k,none⟩:Addr).add 0=⟨g,k,none⟩:=by simp[Addr.add]
 cases hi:P.info? T with
 | none=>rw[hi] at hs;cases hs
 | some i =>
   rw[hi] at hs;simp only[XM,X0] at hs;have s0:=Cw (P:=P) hc hf h1;simp only[Instr.storeAt,XH,g1,Xs];simp[storeVar,sizeOf,typeInfo,hi,hs,hv,storeCells,g0,s0]
theorem Pa:(prog.info? 4).map (fun i=>i.size)=some 1:=by kernel_rfl
theorem Ig {o:Oper}{s x:Operand}(ho:o.op=.store t s x)(hr:(Instr.storeAt t (a.eval s) (a.eval x)).run P w=.ok () w'):(execOp a.eval o).run P w=.ok .skip w':=by
 unfold execOp;simp[ho,hr]
theorem Ih {o:Oper}{s x:Operand}(hg:o.guard=none)(ho:o.op=.store t s x)
 (hr:(Instr.storeAt t (a.eval s) (a.eval x)).run P w=.ok () w') (hS:S w') (h:AE P ops Q S last r (a.put o.dst undef) w'):AE P ops Q S last ((some o,true)::r) a w:=by
 refine FK hg fun K hK=>?_
 unfold Oper.wp;rw[Ig ho hr];exact hK _ _ hS h
theorem EU {o:Oper}{s x:Operand}(hg:o.guard=none)(ho:o.op=.store t s x)
 (hr:(Instr.storeAt t (a.eval s) (a.eval x)).run P w=.ok () w') (h:Q .normal (a.put o.dst undef) w'):AE P ops (NP Q) S true [(some o,true)] a w:=by
 refine Dv hg fun K hK=>?_
 unfold Oper.wp;rw[Ig ho hr];exact hK _ _ (Cj h)
def Ad.give (p:Ad)(id:Nat):Ad:={ p with at_:=p.at_.set id rn0,taken:=p.taken.set id false,free:=p.free++[id],many:=p.many-1 }
theorem Ad.give_get (h2:id<p.taken.length)(h1:id<p.at_.length)(i:Nat):(p.give id).get i=if i=id then none else p.get i:=by
 unfold Ad.get;have e1:(p.give id).tk i=if i=id then false else p.tk i:=ER h2 i
 have e2:(p.give id).nd i=if i=id then rn0 else p.nd i:=De h1 i
 rw[e1,e2]
 by_cases e:i=id<;>simp[e]
theorem Ko {f:Nat->Int}(h:∀ i,i<k->0<=f i)(hj:j<k)(hp:1<=f j):1<=Ah k f:=Int.le_trans hp (FE k h hj)
theorem Aq.many_pos {o:Own}(h:Aq o w pb p)(hi:p.tk id=true):0<p.many:=by
 have:=h.cnt;have h2:1<=Ah p.at_.length (fun i=>if p.tk i=true then (1:Int) else 0):=Ko (fun i _=>by split<;>omega) (h.tk_lt hi).2 (by simp[hi]);omega
abbrev Xa:=@List.mem_append
abbrev Xg:=@List.mem_singleton
theorem Aq.toGive {o:Own}(h:Aq o w pb p)(hi:p.tk id=true){vs vt:Value}(hop:o1 pb=some .pool)
 (hpb:W.heap[pb]?=some (.cells #[.int .i64 p.room,vs,vt,vf,.int .i64 ((p.many-1:Nat):Int)] 231 (0,0)))
 (h2:RowR o1 W .slots 236 5 vs p.at_.length ((p.at_.set id rn0).flatMap rnV)) (h3:RowR o1 W .taken 4 1 vt p.at_.length ((p.taken.set id false).map Value.bool))
 (h4:RowR o1 W .free 3 1 vf (p.free.length+1) ((p.free++[id]).map nat64)):Aq o1 W pb (p.give id):=by
 obtain⟨i0,i1⟩:=h.tk_lt hi;have i2:id<p.taken.length:=by rw[h.len];exact i1
 have tk:∀ i,(p.give id).tk i=if i=id then false else p.tk i:=fun i=>ER i2 i
 have nd:∀ i,(p.give id).nd i=if i=id then rn0 else p.nd i:=fun i=>De i1 i
 have g1:=h.many_pos hi;have hm:=h.many;refine⟨hop,⟨vs,vt,vf,hpb,?_,?_,?_⟩,?_,h.room,?_,?_,?_,?_,?_,?_,?_,?_⟩
 . simpa [Ad.give] using h2
 . simpa [Ad.give,h.len] using h3
 . simpa [Ad.give] using h4
 . simp[Ad.give,h.len]
 . have:=h.top;simpa [Ad.give] using this
 . rw[tk,WO (by omega)];exact h.zero
 . have:=h.pos;simpa [Ad.give] using this
 ·intro i g0;rw[tk] at g0;rw[nd]
  by_cases e:i=id
  . rw[WR e] at g0;cases g0
  . rw[WO e] at g0 ⊢;exact h.id i g0
 . simp only[Ad.give,WY,Y2,Xi];omega
 ·refine X5.2 ⟨h.nodup,by simp,?_⟩;intro x hx y hy e;simp at hy;subst hy;subst e
  have:=(h.free _ hx).2.2;rw[hi] at this;cases this
 ·intro i g0;rw[tk];simp only[Ad.give,Xa,Xg,Xi] at g0 ⊢;rcases g0 with g0|rfl
  ·have:=h.free i g0;refine⟨this.1,this.2.1,?_⟩;split
   . rfl
   . exact this.2.2
  . exact⟨i0,i1,by simp⟩
 ·have hc:=h.cnt;have:Ah (p.give id).at_.length (fun i=>if (p.give id).tk i=true then 1 else 0)=Ah p.at_.length (fun i=>if p.tk i=true then 1 else 0)+((if (p.give id).tk id=true then 1 else 0)-(if p.tk id=true then 1 else 0)):=by
   have hl:(p.give id).at_.length=p.at_.length:=by simp[Ad.give]
   rw[hl];refine Dd (fun i hi=>?_) _ i1;rw[tk,WO hi]
  rw[this,tk,WR rfl,hi,<- hc];simp[Ad.give];omega
theorem Pb (o:Own)(pb:Nat)(p:Ad)(id:Nat)(w:Wd)(h:Aq o w pb p)(hlt:Ab o w)(hi:p.tk id=true) :
 Calls prog 200 #[Pt pb,.int .i64 id] w fun x w'=>x=.returned (.int .i64 0)/\∃ o',Aq o' w' pb (p.give id)/\Chg (fun r=>r=.pool\/r=.slots\/r=.taken\/r=.free) o o' w w'/\Ab o' w':=by
 obtain⟨vs,vt,vf,g8,hs,ht,ge⟩:=h.blk;obtain⟨gs,cs,rfl,g2,_⟩:=hs.shape h.pos;obtain⟨gt,ct,rfl,g0,_⟩:=ht.shape (by rw[h.len];exact h.pos);obtain⟨af,cf,rfl,_⟩:=ge.slice;rw[h.len] at g8 ht;obtain⟨c0,c1,c2,c3,c4,f0⟩:=cells5 g8;obtain⟨i0,i1⟩:=h.tk_lt hi;have i1':(id:Int)<p.at_.length:=by omega
 have gP:=h.top;have gO:=h.room;obtain⟨n0,n1,n2,n3,n4⟩:=Aq.node hs (k:=id) i1;have gb:=ht;rw[<- h.len] at gb;have t0:=Aq.flag gb (k:=id) (by rw[h.len];exact i1);have fs0:=hs.frozen;have ft0:=ht.frozen id;have ne:∀ {a b r q},o a=some r->o b=some q->r≠q->a≠b:=fun ha hb hr e=>by subst e;rw[ha] at hb;cases hb;exact hr rfl
 have nps:pb≠gs:=ne h.own g2 (by simp);have npt:pb≠gt:=ne h.own g0 (by simp);have nst:gs≠gt:=ne g2 g0 (by simp);have gS:=h.many_pos hi;have gz:=h.many;obtain⟨W2,g3⟩:=Ex ((set5 w.drew gs id rn0).setCell ⟨gt,id,none⟩ (.bool false));have gc:W2.heap[pb]?=some (.cells #[.int .i64 p.room,.slice (some ⟨gs,0,none⟩) p.at_.length cs,.slice (some ⟨gt,0,none⟩) p.at_.length ct,.slice af p.free.length cf,.int .i64 p.many] 231 (0,0)):=by
  rw[g3,Aw (p:=⟨gt,id,none⟩) npt,B8 nps];exact g8
 have gm:RowR o W2 .slots 236 5 (.slice (some ⟨gs,0,none⟩) p.at_.length cs) p.at_.length ((p.at_.set id rn0).flatMap rnV):=by
  have:=(FN hs.drew i1 rn0).setCell_other (p:=⟨gt,id,none⟩) (by rw[g0];simp) (.bool false);rw[Xi] at this;rw[g3];exact this
 have gk:RowR o W2 .taken 4 1 (.slice (some ⟨gt,0,none⟩) p.at_.length ct) p.at_.length ((p.taken.set id false).map Value.bool):=by
  have:=(ht.drew.keep (w':=set5 w.drew gs id rn0) (o':=o) (fun g hg=>B8 (ne hg g2 (by simp))) (fun _ h=>h)).stored id (.bool false);rw[g3,Yv];exact this
 have gu:RowR o W2 .free 3 1 (.slice af p.free.length cf) p.free.length (p.free.map nat64):=by
  rw[g3];exact((ge.drew.keep (w':=set5 w.drew gs id rn0) (o':=o) (fun g hg=>B8 (ne hg g2 (by simp))) (fun _ h=>h)).setCell_other (p:=⟨gt,id,none⟩) (by rw[g0];simp) (.bool false))
 have gp:Ab o W2:=by rw[g3];exact hlt.mono (by simp[set5,World.setCell])
 have gw:Chg (fun r=>r=.pool\/r=.slots\/r=.taken\/r=.free) o o w W2:=by
  rw[g3];exact((FO (Chg.refl _ _ _).drew g2 (.inr (.inl rfl))).setCell (p:=⟨gt,id,none⟩) g0 (.inr (.inr (.inl rfl))) _)
 have HH:=Hd h;have HI:=Hd hi;have gB:=Hd g3;have gi:=Hd gc;have gF:=Hd gm;have gD:=Hd gk;have gL:=Hd gu;have g9:=Hd gp;have gN:=Hd gw;have gx:=Hd h.own;clear hs ht gb ge h hlt hi g2 g0 g8 ne g3 gc gm gk gu gp gw gz;have gh:Hq (∀ W:Wd,(∀ g,g≠gs->W.heap[g]?=w.heap[g]?)->W.cell? ⟨pb,1,none⟩=some (.slice (some ⟨gs,0,none⟩) p.at_.length cs)/\W.cell? ⟨pb,2,none⟩=some (.slice (some ⟨gt,0,none⟩) p.at_.length ct)):=by
  show ∀ _,_
  intro W hW;have a:=fun g k (hg:g≠gs)=>Xz (w:=w) (w':=W) (a:=⟨g,k,none⟩) (hW g hg)
  exact⟨(a pb 1 nps).trans c1,(a pb 2 nps).trans c2⟩
 delta Pt;go_enter func200,ntmps200
 go_wp2_with (fail);refine(FM o pb p id _ HH.o).mono ?_;rintro x w' ⟨rfl,rfl⟩;rw[HI.o];go_upto_region 3 with fail;refine AR (fun W:Wd=>W.cell? ⟨pb,1,none⟩=some (.slice (some ⟨gs,0,none⟩) p.at_.length cs)/\W.cell? ⟨pb,2,none⟩=some (.slice (some ⟨gt,0,none⟩) p.at_.length ct)) true 14
  [(0,false),(1,false),(2,false),(3,false),(4,false),(5,false),(6,false),(7,false),(8,false),(9,false),(10,false),(11,false),(12,true),(13,false),(14,true)] (by kernel_rfl) (by kernel_rfl) (gh.o _ (fun _ _=>rfl)) ?_
 simp only[planned,AQ]
 iterate 12
  refine A3 rfl ?_;apply Exists.intro;refine⟨fun w' hw=>?_,?_⟩
  . obtain⟨h1,h2⟩:=hw;go_simp;rfl
  simp only[Ac]
 refine Ih rfl rfl (Dw (w:=w.drew) fs0 n0 n1 n2 n3 n4 0 0 0 0 0) (gh.o _ (fun g hg=>B8 (w:=w.drew) (n:=rn0) (k:=id) hg)) ?_;simp only[Ac]
 iterate 1
  refine A3 rfl ?_;apply Exists.intro;refine⟨fun w' hw=>?_,?_⟩
  . obtain⟨h1,h2⟩:=hw;go_simp;rfl
  simp only[Ac]
 refine EU (w':=(set5 w.drew gs id rn0).setCell ⟨gt,id,none⟩ (.bool false)) rfl rfl (ET Pa ((Xz (w:=w.drew) (w':=set5 w.drew gs id rn0) (a:=⟨gt,id,none⟩) (B8 (X1 nst))).trans t0) ((World.frozen?_of_block (w:=w.drew) (w':=set5 w.drew gs id rn0) (a:=⟨gt,id,none⟩) (B8 (X1 nst))).trans ft0) rfl rfl) ?_;rw[<- gB.o];simp only[Ac];clear c0 c1 c2 c3 c4 f0 n0 n1 n2 n3 n4 t0 fs0 ft0 gh;obtain⟨c0,c1,c2,c3,c4,f0⟩:=cells5 gi.o;have lpb:pb<W2.heap.size:=Ag c0;have gA:p.free.length<1000000000:=by have:=HH.o.many;omega
 go_upto_region 4 with fail
 go_cut [4] (fun s4 wx=>s4=.int .i64 0/\∃ gf kf o1,wx.heap[pb]?=some (.cells #[.int .i64 p.room,.slice (some ⟨gs,0,none⟩) p.at_.length cs,.slice (some ⟨gt,0,none⟩) p.at_.length ct,.slice (some ⟨gf,0,none⟩) (p.free.length+1) kf,.int .i64 p.many] 231 (0,0)) /\
  RowR o1 wx .slots 236 5 (.slice (some ⟨gs,0,none⟩) p.at_.length cs) p.at_.length ((p.at_.set id rn0).flatMap rnV)/\RowR o1 wx .taken 4 1 (.slice (some ⟨gt,0,none⟩) p.at_.length ct) p.at_.length ((p.taken.set id false).map Value.bool) /\
  RowR o1 wx .free 3 1 (.slice (some ⟨gf,0,none⟩) (p.free.length+1) kf) (p.free.length+1) ((p.free++[id]).map nat64)/\o1 pb=some .pool/\Chg (fun r=>r=.pool\/r=.slots\/r=.taken\/r=.free) o o1 w wx/\Ab o1 wx)
 case first =>
  go_wp2_with (at_builtin
               refine ES 22 3 1 8 _ underlying22 El rfl (by decide) rfl _ _ rfl rfl rfl rfl (by simp) rfl (fun u hu=>by simp at hu;subst hu;rfl) gL.o g9.o gA (by decide) ?_;intro g1 k1 w1 o1 gn gg gq;have g7:=(gg.same g9.o gx.o (by simp)).trans gi.o;obtain⟨q0,q1,q2,q3,q4,fq⟩:=cells5 g7;have gy:=Hd g7;have gG:=Hd gn;have ga:=Hd gg;have gJ:=Hd gq;clear gn gg gq g7 c0 c1 c2 c3 c4 f0)
  go_meet;have g4:=ga.o.ext _ _ gx.o;refine⟨rfl,g1,k1,o1,Az gy.o _,(gF.o.chg ga.o g9.o (by simp)).setCell_other (by rw[g4];simp) _,(gD.o.chg ga.o g9.o (by simp)).setCell_other (by rw[g4];simp) _,?_,g4,(gN.o.trans (ga.o.mono fun r e=>.inr (.inr (.inr e)))).setCell (p:=⟨pb,3,none⟩) g4 (.inl rfl) _,gJ.o.mono (by simp[World.setCell])⟩;rw[Xl];exact gG.o.setCell_other (by rw[g4];simp) _
 case rest =>
  obtain⟨rfl,gf,kf,o1,g6,gl,gj,gr,gd,gv,go⟩:=hcut;clear c0 c1 c2 c3 c4 f0 lpb
  rename Wd=>w3
  obtain⟨c0,c1,c2,c3,c4,f0⟩:=cells5 g6;have gR:(p.many:Int)<9223372036854775807:=by have:=HH.o.many;omega
  have gQ:(1:Int)<=p.many:=by omega
  have gH:=Hd g6;have gE:=Hd gl;have gC:=Hd gj;have gK:=Hd gr;have g5:=Hd gd;have gM:=Hd gv;have gI:=Hd go;clear g6 gl gj gr gd gv go;go_wp2_with fail;go_ret;refine⟨rfl,o1,HH.o.toGive HI.o g5.o ?_ (gE.o.setCell_other (by rw[g5.o];simp) _) (gC.o.setCell_other (by rw[g5.o];simp) _) (gK.o.setCell_other (by rw[g5.o];simp) _),gM.o.setCell (p:=⟨pb,4,none⟩) g5.o (.inl rfl) _,gI.o.mono (by simp[World.setCell])⟩;rw[show ((p.many-1:Nat):Int)=(p.many:Int)-1 by omega];exact Az gH.o _
def InU (x:Int):Prop:=0<=x/\x<18446744073709551616
theorem Kp (x:Int):InU (IntKind.u64.wrap x):=by
 rw[IntKind.wrap_u64];unfold InU;omega
theorem Ii (op:BinOp)(x y:Int):InU (bits op .u64 x y):=by
 unfold bits;exact Kp _
def keyV (op:Int)(a b c:Nat):Value:=.agg #[.int .i64 op,.int .i64 a,.int .i64 b,.int .i64 c]
theorem Kq (mb ge cap:Nat)(op:Int)(a b c:Nat)(w:Wd)(hc:w.cell? ⟨mb,1,none⟩=some (.slice (some ⟨ge,0,none⟩) 4096 cap)) :
 Calls prog 183 #[Pt mb,keyV op a b c] w fun x w'=>∃ i,i<4096/\x=.returned (.pointer (some ⟨ge,i*6,none⟩))/\Bw w w':=by
 have lmb:mb<w.heap.size:=Ag hc;have i0:∀ w,(Instr.index 258 (.agg #[.int .i64 a,.int .i64 b,.int .i64 c]) (.int .i64 0)).run prog w=.ok (.int .i64 a) w:=fun _=>by kernel_rfl
 have i1:∀ w,(Instr.index 258 (.agg #[.int .i64 a,.int .i64 b,.int .i64 c]) (.int .i64 1)).run prog w=.ok (.int .i64 b) w:=fun _=>by kernel_rfl
 have i2:∀ w,(Instr.index 258 (.agg #[.int .i64 a,.int .i64 b,.int .i64 c]) (.int .i64 2)).run prog w=.ok (.int .i64 c) w:=fun _=>by kernel_rfl
 unfold keyV
 delta Pt;go_enter func183,ntmps183
 go_wp2_with fail
 go_loop [5,13] (fun n i=>∃ (k:Nat) (X:Int),k<=3/\InU X/\n=.int .u64 X/\i=.int .i64 k) (fun _ i=>3-(intOf i).toNat)
 case atStart=>exact⟨0,_,by omega,Kp _,rfl,rfl⟩
 case round =>
  obtain⟨k,X,hk,hX,rfl,rfl⟩:=hrel;have HX:=Hd hX;clear hX
  by_cases g1:k<3
  ·have g0:k=0\/k=1\/k=2:=by omega
   rcases g0 with rfl|rfl|rfl
   . go_wp2_with fail;refine⟨⟨1,_,by omega,Ii _ _ _,rfl,rfl⟩,by simp[intOf]⟩
   . go_wp2_with fail;refine⟨⟨2,_,by omega,Ii _ _ _,rfl,rfl⟩,by simp[intOf]⟩
   . go_wp2_with fail;refine⟨⟨3,_,by omega,Ii _ _ _,rfl,rfl⟩,by simp[intOf]⟩
  ·obtain rfl:k=3:=by omega
   obtain⟨i,hi,he⟩:∃ i:Nat,i<4096/\X.tmod 4096=(i:Int):=by
    obtain⟨h0,_⟩:=HX.o;rw[YU h0];exact⟨(X%4096).toNat,by omega,by omega⟩
   have g2:(i:Int)<4096:=by omega
   go_wp2_with fail
   go_quiet (fail)
   go_wp2_with fail;go_ret;exact⟨i,hi,rfl,F6 w _ _⟩
set_option linter.unusedSectionVars false
section
variable {κ:Type}[DecidableEq κ]
def A8 (k:κ):List (κ×Value)->Nat->Option (Nat×Value)
 | [],_=>none
 | p::l,i=>if p.1=k then some (i,p.2) else A8 k l (i+1)
def getL (l:List (κ×Value))(k:κ):Option Value:=(A8 k l 0).map (·.2)
structure CN (P:Program)(K:TypeId)(enc:κ->Value):Prop where
 check:∀ (w:Wd) (em:Bool) (k:κ),(Instr.checkKey em 10000 K (enc k)).run P w=.ok () w
 find:∀ (w:Wd) (k:κ) (l:List (κ×Value)) (es:List MapEntry),es.map (fun e=>(e.key,e.val))=l.map (fun p=>(enc p.1,p.2)) ->
  (Instr.findKey K (enc k) es).run P w=.ok (A8 k l 0) w
 stays:∀ (w:Wd) (k:κ),(Instr.keyThatStays (enc k) (enc k)).run P w=.ok (enc k) w
structure Ar (w:Wd)(b:Nat)(enc:κ->Value)(l:List (κ×Value)):Prop where
 ex:∃ es clock,w.heap[b]?=some (.map es clock)/\es.toList.map (fun e=>(e.key,e.val))=l.map (fun p=>(enc p.1,p.2)) /\
  (∀ e∈es.toList,e.born<clock)/\(es.toList.map (·.born)).Nodup
 nodup:(l.map Prod.fst).Nodup
theorem Ar.lt {enc:κ->Value}{l:List (κ×Value)}(h:Ar w b enc l):b<w.heap.size:=by
 obtain⟨es,c,hb,_⟩:=h.ex;exact(WL.1 hb).1
theorem Ar.keep {enc:κ->Value}{l:List (κ×Value)}(h:Ar w b enc l)(hk:CJ row w w')(hne:some b≠row):Ar w' b enc l:=by
 obtain⟨es,c,hb,rest⟩:=h.ex;exact⟨⟨es,c,by rw[hk b h.lt hne];exact hb,rest⟩,h.nodup⟩
theorem Pc (h:Bw w w')(row:Option Nat):CJ row w w':=fun k hk _=>h.block k hk
theorem Ar.below {enc:κ->Value}{l:List (κ×Value)}(h:Ar w b enc l)(hb:Bw w w'):Ar w' b enc l :=
 h.keep (Pc hb none) (by simp)
theorem En (w:Wd)(enc:κ->Value):Ar (w.alloc (.map #[] 0)) w.heap.size enc [] :=
 ⟨⟨#[],0,WN w _,by simp,by simp,by simp⟩,by simp⟩
theorem Eo {es:Array MapEntry}(h:w.heap[b]?=some (.map es c)):(getObj b).run P w=.ok (.map es c) w:=by
 simp[getObj,Sem.run,h]
abbrev Yc:=@Prod.mk.injEq
theorem Dg {k:κ}{l:List (κ×Value)}:∀ {i:Nat},A8 k l i=some (j,v)->∃ n,j=i+n/\l[n]?=some (k,v):=by
 induction l with
 | nil=>intro i h;cases h
 | cons p l ih =>
   intro i h;unfold A8 at h;split at h
   ·rename_i he
    simp only[X0,Yc] at h;obtain⟨rfl,rfl⟩:=h;exact⟨0,rfl,by simp[<- he]⟩
   . obtain⟨n,h1,h2⟩:=ih h;exact⟨n+1,by omega,by simpa using h2⟩
theorem FS {k:κ}{l:List (κ×Value)}:∀ {i:Nat},A8 k l i=none->∀ p∈l,p.1≠k:=by
 induction l with
 | nil=>intro i _ p hp;cases hp
 | cons q l ih =>
   intro i h p hp;unfold A8 at h;split at h
   . cases h
   ·rename_i he
    rcases XI.1 hp with rfl|hp
    . exact he
    . exact ih h p hp
theorem Ar.lookup {w:Wd}{b:Nat}{K T E:TypeId}{enc:κ->Value}{l:List (κ×Value)}(h:Ar w b enc l)(L:CN P K enc)(hT:P.underlying T=some (.map K E)){z:Value}
 (hz:∀ w,(zeroValue E).run P w=.ok z w) (k:κ) (ok:Bool) :
 (Instr.lookup T (.map (some b)) (enc k) ok).run P w=.ok (if ok then .tuple #[(getL l k).getD z,.bool (getL l k).isSome] else (getL l k).getD z) w:=by
 obtain⟨es,c,hb,hm,_⟩:=h.ex;simp only[Instr.lookup,XH,Xt hT,Xs,Eo hb,Sem.run_pure,L.check,L.find w k l es.toList hm];unfold getL;cases hf:A8 k l 0 with
 | none=>simp[hz,Result.andThen]
 | some p=>simp
def putL (k:κ)(v:Value)(l:List (κ×Value)):List (κ×Value) :=
 match A8 k l 0 with
 | some (j,_)=>l.set j (k,v)
 | none=>l++[(k,v)]
def delL (k:κ)(l:List (κ×Value)):List (κ×Value) :=
 match A8 k l 0 with
 | some (j,_)=>l.eraseIdx j
 | none=>l
theorem Dx {l:List (κ×Value)}(hn:(l.map Prod.fst).Nodup){k:κ}(h:(k,v)∈l):getL l k=some v:=by
 unfold getL;cases hf:A8 k l 0 with
 | none=>exact(FS hf _ h rfl).elim
 | some p =>
   obtain⟨j,u⟩:=p;obtain⟨n,_,h2⟩:=Dg hf;obtain⟨m,hm,he⟩:=Ys.1 h;have g0:n<l.length:=by
    rcases Xe n l.length with h'|h'
    . exact h'
    . rw[Xb h'] at h2;cases h2
   rw[WS g0] at h2;have h3:l[n]=(k,u):=by simpa using h2
   have h4:n=m:=by
    apply(List.getElem_inj (h₀:=by simpa using g0) (h₁:=by simpa using hm) hn).1;simp[h3,he]
   subst h4;rw[h3] at he;simp only[Yc,true_and] at he;simp[he]
theorem DN {l:List (κ×Value)}{k:κ}(h:getL l k=some v):(k,v)∈l:=by
 unfold getL at h;cases hf:A8 k l 0 with
 | none=>rw[hf] at h;cases h
 | some p =>
   obtain⟨j,u⟩:=p;obtain⟨n,_,h2⟩:=Dg hf;rw[hf] at h;simp only[XM,X0] at h;subst h;exact List.mem_of_getElem? h2
theorem CO {l:List (κ×Value)}{k:κ}:getL l k=none↔∀ p∈l,p.1≠k:=by
 constructor
 ·intro h;unfold getL at h;cases hf:A8 k l 0 with
  | none=>exact FS hf
  | some p=>rw[hf] at h;cases h
 ·intro h;cases hg:getL l k with
  | none=>rfl
  | some v=>exact(h _ (DN hg) rfl).elim
theorem Kr {l:List (κ×Value)}(hn:(l.map Prod.fst).Nodup){k:κ}{o:Option Value}(h1:∀ v,o=some v->(k,v)∈l)(h2:o=none->∀ p∈l,p.1≠k):getL l k=o:=by
 cases o with
 | none=>exact CO.2 (h2 rfl)
 | some v=>exact Dx hn (h1 v rfl)
abbrev Zt:=@List.getElem_set
theorem Pd {l:List (κ×Value)}{k:κ}(h:l[n]?=some (k,u)):(l.set n (k,v)).map Prod.fst=l.map Prod.fst:=by
 have hn:n<l.length:=by
  rcases Xe n l.length with h'|h'
  . exact h'
  . rw[Xb h'] at h;cases h
 apply Yl (by simp);intro i h1 h2;simp only[List.getElem_map,Zt];split
 ·rename_i e;subst e
  rw[WS hn] at h;have:l[n]=(k,u):=by simpa using h
  simp[this]
 . rfl
abbrev WW:=@List.mem_map
theorem FT {l:List (κ×Value)}(hn:(l.map Prod.fst).Nodup)(k:κ)(v:Value):((putL k v l).map Prod.fst).Nodup:=by
 unfold putL;cases hf:A8 k l 0 with
 | none =>
   simp only[Xl,XJ,Zh];refine X5.2 ⟨hn,by simp,?_⟩;intro a ha b hb;obtain⟨p,hp,rfl⟩:=WW.1 ha;simp at hb;subst hb
   exact FS hf p hp
 | some p =>
   obtain⟨j,u⟩:=p;obtain⟨n,h1,h2⟩:=Dg hf;simp only[Xw] at h1;subst h1
   rw[Pd h2];exact hn
abbrev Yq:=@List.mem_or_eq_of_mem_set
theorem Ij {l:List (κ×Value)}(hn:(l.map Prod.fst).Nodup)(k k':κ)(v:Value):getL (putL k v l) k'=if k'=k then some v else getL l k':=by
 refine Kr (FT hn k v) ?_ ?_
 ·intro u hu;unfold putL;cases hf:A8 k l 0 with
  | none =>
    dsimp only;split at hu
    . rename_i e;subst e;cases hu;simp
    . exact Xa.2 (.inl (DN hu))
  | some p =>
    obtain⟨j,x⟩:=p;obtain⟨n,h1,h2⟩:=Dg hf;simp only[Xw] at h1;subst h1
    dsimp only;have hj:j<l.length:=by
     rcases Xe j l.length with h'|h'
     . exact h'
     . rw[Xb h'] at h2;cases h2
    split at hu
    ·rename_i e;subst e;cases hu
     exact Ys.2 ⟨j,by simpa using hj,by simp⟩
    ·rename_i e
     obtain⟨m,hm,he⟩:=Ys.1 (DN hu);refine Ys.2 ⟨m,by simpa using hm,?_⟩;rw[List.getElem_set_ne]
     . exact he
     ·rintro rfl;rw[WS hj] at h2;have h3:l[j]=(k,x):=by simpa using h2
      rw[h3] at he;simp only[Yc] at he;exact e he.1.symm
 ·intro ho p hp e;split at ho
  . cases ho
  ·rename_i g1
   have g0:=CO.1 ho;unfold putL at hp;cases hf:A8 k l 0 with
   | none =>
     rw[hf] at hp;rcases Xa.1 hp with hp|hp
     . exact g0 p hp e
     . simp at hp;subst hp;exact g1 e.symm
   | some q =>
     obtain⟨j,x⟩:=q;rw[hf] at hp;rcases Yq hp with hp|rfl
     . exact g0 p hp e
     . exact g1 e.symm
abbrev X3:=@congrArg
theorem Ar.update {K E:TypeId}{enc:κ->Value}{l:List (κ×Value)}(h:Ar w b enc l)(L:CN P K enc)(hT:P.underlying T=some (.map K E))(k:κ)(v:Value) :
 ∃ w',(Instr.mapUpdate T (.map (some b)) (enc k) v).run P w=.ok () w'/\Ar w' b enc (putL k v l)/\w.grownBy w' (some b):=by
 obtain⟨es,c,hb,hm,g0,g4⟩:=h.ex;have g5:=h.lt;have gd:es.toList.length=l.length:=by have:=X3 List.length hm;simpa using this
 have g2:∀ o:Obj,(setObj b o).run P w=.ok () { w with heap:=w.heap.setIfInBounds b o }:=by
  intro o;simp[setObj,Sem.run,hb]
 have g1:∀ o:Obj,w.grownBy { w with heap:=w.heap.setIfInBounds b o } (some b):=by
  intro o;refine⟨rfl,rfl,rfl,by simp,fun i hi ga=>?_⟩;have:b≠i:=by rintro rfl;exact ga rfl
  simp[this]
 cases hf:A8 k l 0 with
 | none =>
   refine⟨{ w with heap:=w.heap.setIfInBounds b (.map (es.push { key:=enc k,val:=v,born:=c }) (c+1)) },?_,?_,g1 _⟩
   . simp only[Instr.mapUpdate,XH,Xt hT,Xs,Eo hb,L.check,L.find w k l es.toList hm,hf,g2]
   ·refine⟨⟨es.push { key:=enc k,val:=v,born:=c },c+1,by simp[g5],?_,?_,?_⟩,?_⟩
    . unfold putL;rw[hf];simp[hm]
    ·intro e he;rw[Array.toList_push,Xa] at he;rcases he with he|he
     . have:=g0 e he;omega
     . simp at he;subst he;simp
    ·rw[Array.toList_push,Xl];refine X5.2 ⟨g4,by simp,?_⟩;intro a ha b' g7;obtain⟨e,he,rfl⟩:=WW.1 ha;simp at g7;subst g7
     have:=g0 e he;omega
    . exact FT h.nodup k v
 | some p =>
   obtain⟨j,u⟩:=p;obtain⟨n,h1,h2⟩:=Dg hf;simp only[Xw] at h1;subst h1
   have hj:j<l.length:=by
    rcases Xe j l.length with h'|h'
    . exact h'
    . rw[Xb h'] at h2;cases h2
   have g6:j<es.size:=by have:es.toList.length=es.size:=rfl;omega
   have g8:es[j].key=enc k:=by
    have h3:=X3 (fun x=>x[j]?) hm;simp only[XC,h2,XM] at h3;have h4:es.toList[j]?=some es[j]:=by simp[g6]
    rw[h4] at h3;simp only[XM,X0,Yc] at h3;exact h3.1
   have g9:(Instr.keyThatStays (((es[j]?).map (·.key)).getD (enc k)) (enc k)).run P w=.ok (enc k) w:=by
    simp only[Array.getElem?_eq_getElem g6,XM,Option.getD_some,g8];exact L.stays w k
   refine⟨{ w with heap:=w.heap.setIfInBounds b (.map (es.modify j fun e=>{ e with key:=enc k,val:=v }) c) },?_,?_,g1 _⟩
   . simp only[Instr.mapUpdate,XH,Xt hT,Xs,Eo hb,L.check,L.find w k l es.toList hm,hf,g9,g2]
   ·have g3:(es.modify j fun e=>{ e with key:=enc k,val:=v }).toList=es.toList.set j { es[j] with key:=enc k,val:=v }:=by
     apply Yl (by simp);intro i gc gb;simp only[Array.getElem_toList,Array.getElem_modify,Zt];split
     . rename_i e;subst e;rfl
     . rfl
    refine⟨⟨es.modify j fun e=>{ e with key:=enc k,val:=v },c,by simp[g5],?_,?_,?_⟩,FT h.nodup k v⟩
    . unfold putL;rw[hf,g3];simp[Yv,hm]
    ·intro e he;rw[g3] at he;rcases Yq he with he|rfl
     . exact g0 e he
     . exact g0 es[j] (by simp)
    ·have:((es.modify j fun e=>{ e with key:=enc k,val:=v }).toList.map (·.born))=es.toList.map (·.born):=by
      rw[g3,Yv];apply Yl (by simp);intro i gc gb;simp only[Zt,List.getElem_map,Array.getElem_toList];split
      . rename_i e;subst e;rfl
      . rfl
     rw[this];exact g4
theorem Ik {α β:Type}(f:α->β):∀ (l:List α) (j:Nat),(l.eraseIdx j).map f=(l.map f).eraseIdx j
 | [],_=>rfl
 | _::_,0=>rfl
 | x::l,j+1=>by simp[Ik f l j]
theorem Il {l:List (κ×Value)}(hn:(l.map Prod.fst).Nodup)(k:κ):((delL k l).map Prod.fst).Nodup:=by
 unfold delL;split
 . exact hn.sublist ((List.eraseIdx_sublist _ _).map _)
 . exact hn
theorem Pe {l:List (κ×Value)}(hn:(l.map Prod.fst).Nodup)(k k':κ):getL (delL k l) k'=if k'=k then none else getL l k':=by
 refine Kr (Il hn k) ?_ ?_
 ·intro u hu;split at hu
  . cases hu
  ·rename_i g2
   have hm:=DN hu;unfold delL;cases hf:A8 k l 0 with
   | none=>exact hm
   | some p =>
     obtain⟨j,x⟩:=p;obtain⟨n,h1,h2⟩:=Dg hf;simp only[Xw] at h1;subst h1
     dsimp only;rw[List.mem_eraseIdx_iff_getElem?];obtain⟨m,g1,he⟩:=Ys.1 hm;refine⟨m,?_,by rw[WS g1,he]⟩;rintro rfl;rw[WS g1,he] at h2;simp only[X0,Yc] at h2;exact g2 h2.1
 ·intro ho p hp e;unfold delL at hp;cases hf:A8 k l 0 with
  | none =>
    rw[hf] at hp;split at ho
    . rename_i h;subst h;exact FS hf p hp e
    . exact CO.1 ho p hp e
  | some q =>
    obtain⟨j,x⟩:=q;rw[hf] at hp;dsimp only at hp;obtain⟨n,h1,h2⟩:=Dg hf;simp only[Xw] at h1;subst h1
    obtain⟨m,g3,hm⟩:=List.mem_eraseIdx_iff_getElem?.1 hp;split at ho
    ·rename_i h;subst h
     have hj:j<l.length:=by
      rcases Xe j l.length with h'|h'
      . exact h'
      . rw[Xb h'] at h2;cases h2
     have g0:m<l.length:=by
      rcases Xe m l.length with h'|h'
      . exact h'
      . rw[Xb h'] at hm;cases hm
     rw[WS hj] at h2;rw[WS g0] at hm;have:m=j:=by
      apply(List.getElem_inj (h₀:=by simpa using g0) (h₁:=by simpa using hj) hn).1;simp only[X0] at h2 hm;simp[h2,hm,e]
     exact g3 this
    . exact CO.1 ho p (List.mem_of_getElem? hm) e
theorem Ar.delete {K E:TypeId}{enc:κ->Value}{l:List (κ×Value)}(h:Ar w b enc l)(L:CN P K enc)(hT:P.underlying T=some (.map K E))(k:κ)(ty:TypeId) :
 ∃ w',(Builtin.delete_ #[T,K] ty #[.map (some b),enc k]).run P w=.ok (.tuple #[]) w'/\Ar w' b enc (delL k l)/\w.grownBy w' (some b):=by
 obtain⟨es,c,hb,hm,g1,g4⟩:=h.ex;have g5:=h.lt;have g8:es.toList.length=l.length:=by have:=X3 List.length hm;simpa using this
 have g2:∀ o:Obj,(setObj b o).run P w=.ok () { w with heap:=w.heap.setIfInBounds b o }:=by
  intro o;simp[setObj,Sem.run,hb]
 have g0:∀ o:Obj,w.grownBy { w with heap:=w.heap.setIfInBounds b o } (some b):=by
  intro o;refine⟨rfl,rfl,rfl,by simp,fun i hi g6=>?_⟩;have:b≠i:=by rintro rfl;exact g6 rfl
  simp[this]
 cases hf:A8 k l 0 with
 | none =>
   refine⟨{ w with heap:=w.heap.setIfInBounds b (.map es c) },?_,?_,g0 _⟩
   . simp[Builtin.delete_,Xt hT,Eo hb,L.check,L.find w k l es.toList hm,hf,g2]
   . refine⟨⟨es,c,by simp[g5],?_,g1,g4⟩,Il h.nodup k⟩;unfold delL;rw[hf];exact hm
 | some p =>
   obtain⟨j,u⟩:=p;obtain⟨n,h1,h2⟩:=Dg hf;simp only[Xw] at h1;subst h1
   have hj:j<l.length:=by
    rcases Xe j l.length with h'|h'
    . exact h'
    . rw[Xb h'] at h2;cases h2
   have g7:j<es.size:=by have:es.toList.length=es.size:=rfl;omega
   refine⟨{ w with heap:=w.heap.setIfInBounds b (.map (es.eraseIdxIfInBounds j) c) },?_,?_,g0 _⟩
   . simp[Builtin.delete_,Xt hT,Eo hb,L.check,L.find w k l es.toList hm,hf,g2]
   ·have g3:(es.eraseIdxIfInBounds j).toList=es.toList.eraseIdx j:=by simp[Array.eraseIdxIfInBounds,g7]
    refine⟨⟨es.eraseIdxIfInBounds j,c,by simp[g5],?_,?_,?_⟩,Il h.nodup k⟩
    . unfold delL;rw[hf,g3];rw[Ik,Ik,hm]
    . intro e he;rw[g3] at he;exact g1 e (List.mem_of_mem_eraseIdx he)
    . rw[g3];exact g4.sublist ((List.eraseIdx_sublist _ _).map _)
theorem Ar.size {w:Wd}{b:Nat}{K T E:TypeId}{enc:κ->Value}{l:List (κ×Value)}(h:Ar w b enc l)(hT:P.underlying T=some (.map K E))(ty:TypeId) :
 (Builtin.len_ #[T] ty #[.map (some b)]).run P w=.ok (.int .i64 l.length) w:=by
 obtain⟨es,c,hb,hm,_⟩:=h.ex;have g0:es.toList.length=l.length:=by have:=X3 List.length hm;simpa using this
 have:es.size=l.length:=g0;simp[Builtin.len_,Xt hT,Eo hb,goInt,this]
abbrev XU:=@List.cons.injEq
theorem Im {K:TypeId}(hK:P.underlying K=some (.int .i64)):CN P K (Value.int .i64) where
 check w em k:=MapKept.run_checkKey hK (by simp[MapKept.IsKey]) em 9999
 find w k l es h:=by
  have key:∀ (es:List MapEntry) (l:List (Int×Value)) (i:Nat),es.map (fun e=>(e.key,e.val))=l.map (fun p=>(Value.int .i64 p.1,p.2))->Instr.findNow (.int .i64) (.int .i64 k) es i=some (A8 k l i):=by
   intro es
   induction es with
   | nil=>intro l i h;cases l with
     | nil=>rfl
     | cons p l=>simp at h
   | cons e es ih =>
     intro l i h;cases l with
     | nil=>simp at h
     | cons p l =>
       simp only[XJ,XU,Yc] at h;obtain⟨⟨h1,h2⟩,h3⟩:=h;simp only[Instr.findNow,h1,Instr.sameNow,XP,A8]
       by_cases e1:p.1=k
       . simp[e1,h2]
       ·have h5:(k == p.1)=false:=by simpa using(fun e:k=p.1=>e1 e.symm)
        simp[e1,h5,ih l (i+1) h3]
  simp[Instr.findKey,Xt hK,key es l 0 h]
 stays w k:=by simp[Instr.keyThatStays,Instr.sameBits]
theorem Pf {K:TypeId}{d:TypeDesc}{enc:κ->Value}(hK:P.underlying K=some d)(hd:∀ a b,Instr.sameNow d (enc a) (enc b)=none)
 (heq:∀ (w:Wd) a b,(Op.equal K (enc a) (enc b)).run P w=.ok (decide (a=b)) w)
 (hcheck:∀ (w:Wd) (em:Bool) (k:κ),(Instr.checkKey em 10000 K (enc k)).run P w=.ok () w)
 (hstays:∀ (w:Wd) (k:κ),(Instr.keyThatStays (enc k) (enc k)).run P w=.ok (enc k) w):CN P K enc where
 check:=hcheck
 stays:=hstays
 find w k l es h:=by
  have key:∀ (es:List MapEntry) (l:List (κ×Value)) (i:Nat),es.map (fun e=>(e.key,e.val))=l.map (fun p=>(enc p.1,p.2))->(Instr.findAsking K (enc k) es i).run P w=.ok (A8 k l i) w:=by
   intro es
   induction es with
   | nil=>intro l i h;cases l with
     | nil=>rfl
     | cons p l=>simp at h
   | cons e es ih =>
     intro l i h;cases l with
     | nil=>simp at h
     | cons p l =>
       simp only[XJ,XU,Yc] at h;obtain⟨⟨h1,h2⟩,h3⟩:=h;simp only[Instr.findAsking,XH,h1,heq,Xs,A8]
       by_cases e1:k=p.1
       . have e2:p.1=k:=e1.symm;simp[e1,h2]
       ·have e2:¬ p.1=k:=fun e=>e1 e.symm
        simp[e1,e2,ih l (i+1) h3]
  cases es with
  | nil =>
    cases l with
    | nil=>simp[Instr.findKey,Xt hK,Instr.findNow,A8]
    | cons p l=>simp at h
  | cons e es =>
    cases l with
    | nil=>simp at h
    | cons p l =>
      have h':=h;simp only[XJ,XU,Yc] at h';have hn:Instr.findNow d (enc k) (e::es) 0=none:=by simp[Instr.findNow,h'.1.1,hd]
      simp[Instr.findKey,Xt hK,hn,key _ _ 0 h]
theorem Ks {o:Oper}{K E:TypeId}{enc:κ->Value}{l:List (κ×Value)}
 (hg:o.guard=none) (m x y:Operand) (hop:o.op=Op.mapUpdate T m x y) (L:CN P K enc) (hT:P.underlying T=some (.map K E))
 (k:κ) (v:Value) (hm:a.eval m=.map (some b)) (hx:a.eval x=enc k) (hy:a.eval y=v) (h:Ar w b enc l)
 (hK:∀ w',Ar w' b enc (putL k v l)->w.grownBy w' (some b)->wpList P ops Q rest (a.put o.dst undef) w'):wpList P ops Q (o::rest) a w:=by
 refine wpList_plain hg fun K' g0=>?_
 obtain⟨w',hr,h1,h2⟩:=h.update L hT k v;unfold Oper.wp;simp[execOp,hop,hm,hx,hy,hr,Result.andThen];exact g0 _ _ (hK w' h1 h2)
end
theorem Io:(prog.info? 113).map (fun i=>i.size)=some 1:=by kernel_rfl
def encE (q:Nat×Nat):Value:=.agg #[.int .i64 q.1,.int .i64 q.2]
theorem Dy (w:Wd)(hT:prog.underlying T=some (.int .i64))(xs:Array Value)(i:Nat)(v:Value)(h:xs[i]?=some v):(part T xs i).run prog w=.ok v w:=by
 simp[part,isAgg,Xt hT,h]
theorem ckE (w:Wd)(em:Bool)(k:Nat×Nat):(Instr.checkKey em 10000 257 (encE k)).run prog w=.ok () w:=by
 have h:=fun(x:Int)=>MapKept.run_checkKey (P:=prog) (w:=w) (kt:=113) (k:=.int .i64 x) underlying113 (by simp[MapKept.IsKey]) em 9998
 have s:=Io;cases hi:prog.info? 113 with
 | none=>rw[hi] at s;cases s
 | some i =>
   rw[hi] at s;simp only[XM,X0] at s;have hs:=run_sizeOf w hi;rw[show prog.cellsOf 113=1 by kernel_rfl] at hs;have p0:=Dy w underlying113 #[.int .i64 k.1,.int .i64 k.2] 0 _ rfl;have p1:=Dy w underlying113 #[.int .i64 k.1,.int .i64 k.2] 1 _ rfl;unfold Instr.checkKey encE;simp only[XH,Xt underlying257,Xs];simp[hs,List.range',p0,p1,h]
theorem eqE (w:Wd)(a b:Nat×Nat):(Op.equal 257 (encE a) (encE b)).run prog w=.ok (decide (a=b)) w:=by
 have hq:=fun(x y:Int)=>run_equalIn_int (P:=prog) w 9998 113 .i64 .i64 x y underlying113
 have s:=Io;cases hi:prog.info? 113 with
 | none=>rw[hi] at s;cases s
 | some i =>
   rw[hi] at s;simp only[XM,X0] at s;have hs:=run_sizeOf w hi;rw[show prog.cellsOf 113=1 by kernel_rfl] at hs;have p0:=fun k:Nat×Nat=>Dy w underlying113 #[.int .i64 k.1,.int .i64 k.2] 0 _ rfl
   have p1:=fun k:Nat×Nat=>Dy w underlying113 #[.int .i64 k.1,.int .i64 k.2] 1 _ rfl
   have hd:Op.maxDepth=9999+1:=rfl;unfold Op.equal encE;rw[hd];unfold Op.equalIn;simp only[XH,Xt underlying257,Xs,hs];simp[List.range',p0,p1,hq];obtain⟨a1,a2⟩:=a;obtain⟨b1,b2⟩:=b;have e1:((a1:Int)=b1)↔a1=b1:=by omega
   have e2:((a2:Int)=b2)↔a2=b2:=by omega
   by_cases h1:a1=b1<;>by_cases h2:a2=b2<;>simp[e1,e2,h1,h2]
theorem Dz:CN prog 257 encE :=
 Pf underlying257 (fun a b=>by simp[Instr.sameNow]) eqE ckE (fun w k=>by simp[Instr.keyThatStays,Instr.sameBits,encE])
structure AJ (o:Own)(w:Wd)(v t:Nat)(f:Nat×Nat->Option Nat):Prop where
 own:o t=some (.tab v)
 ex:∃ mb l,w.heap[t]?=some (.cells #[.map (some mb)] 234 (0,0))/\o mb=some (.tmap v)/\Ar w mb encE l/\∀ k,getL l k=(f k).map (fun(id:Nat)=>Value.int .i64 id)
theorem AJ.keep {o:Own}{v t:Nat}{f:Nat×Nat->Option Nat}(h:AJ o w v t f)(hk:∀ g r,o g=some r->(r=.tab v\/r=.tmap v)->w'.heap[g]?=w.heap[g]?)(ho:∀ g r,o g=some r->o' g=some r):AJ o' w' v t f:=by
 obtain⟨mb,l,h1,h2,h3,h4⟩:=h.ex;refine⟨ho _ _ h.own,mb,l,(hk _ _ h.own (.inl rfl)).trans h1,ho _ _ h2,?_,h4⟩;obtain⟨es,c,hb,rest⟩:=h3.ex;exact⟨⟨es,c,(hk _ _ h2 (.inr rfl)).trans hb,rest⟩,h3.nodup⟩
theorem AJ.chg {o:Own}{v t:Nat}{f:Nat×Nat->Option Nat}(h:AJ o w v t f)(hc:Chg R o o' w w')(hlt:Ab o w)(h1:¬ R (.tab v))(h2:¬ R (.tmap v)):AJ o' w' v t f :=
 h.keep (fun g r hg hr=>hc.same hlt hg (by rcases hr with rfl|rfl<;>assumption)) hc.ext
theorem AJ.below {o:Own}{v t:Nat}{f:Nat×Nat->Option Nat}(h:AJ o w v t f)(hb:Bw w w')(hlt:Ab o w):AJ o w' v t f :=
 h.keep (fun g r hg _=>hb.block g (hlt g r hg)) (fun _ _ h=>h)
theorem cell1 {a:Value}(h:w.heap[g]?=some (.cells #[a] T (0,0))):w.cell? ⟨g,0,none⟩=some a:=by rw[WQ w g 0 _ _ _ h];rfl
theorem AJ.look {o:Own}{v t:Nat}{f:Nat×Nat->Option Nat}(h:AJ o w v t f)(lo hi:Nat):∃ mb,w.cell? ⟨t,0,none⟩=some (.map (some mb)) /\
 (Instr.lookup 232 (.map (some mb)) (.agg #[.int .i64 lo,.int .i64 hi]) true).run prog w=.ok (match f (lo,hi) with|some id=>.tuple #[.int .i64 id,.bool true]|none=>.tuple #[.int .i64 0,.bool false]) w:=by
 obtain⟨mb,l,h1,h2,h3,h4⟩:=h.ex;refine⟨mb,cell1 h1,?_⟩;have:=h3.lookup Dz underlying232 zeroValue3 (lo,hi) true;rw[h4] at this;refine this.trans ?_;cases f (lo,hi)<;>rfl
theorem Ip (o:Own)(v t:Nat)(f:Nat×Nat->Option Nat)(lo hi id:Nat)(w:Wd)(h:AJ o w v t f)(hf:f (lo,hi)=some id) :
 Calls prog 180 #[Pt t,.int .i64 lo,.int .i64 hi] w (Sm (.tuple #[.int .i64 id,.bool true]) w):=by
 obtain⟨mb,c0,hl⟩:=h.look lo hi;rw[hf] at hl;clear h hf
 delta Pt;go_enter func180,ntmps180
 go_wp2
 go_ret2
 exact⟨rfl,rfl⟩
theorem Iq (o:Own)(v t:Nat)(f:Nat×Nat->Option Nat)(lo hi:Nat)(w:Wd)(h:AJ o w v t f)(hf:f (lo,hi)=none) :
 Calls prog 180 #[Pt t,.int .i64 lo,.int .i64 hi] w (Sm (.tuple #[.int .i64 0,.bool false]) w):=by
 obtain⟨mb,c0,hl⟩:=h.look lo hi;rw[hf] at hl;clear h hf
 delta Pt;go_enter func180,ntmps180
 go_wp2
 go_ret2
 exact⟨rfl,rfl⟩
def putF (f:Nat×Nat->Option Nat)(k:Nat×Nat)(x:Option Nat):Nat×Nat->Option Nat:=fun q=>if q=k then x else f q
theorem Kt (o:Own)(v t:Nat)(f:Nat×Nat->Option Nat)(lo hi id:Nat)(w:Wd)(h:AJ o w v t f)(hlt:Ab o w)(hf:f (lo,hi)=none) :
 Calls prog 193 #[Pt t,.int .i64 lo,.int .i64 hi,.int .i64 id] w fun x w'=>x=.returned (.int .i64 0)/\AJ o w' v t (putF f (lo,hi) (some id))/\Chg (· = .tmap v) o o w w'/\Ab o w':=by
 obtain⟨mb,l,h1,h2,h3,h4⟩:=h.ex;have c0:=cell1 h1;have hl:=h3.lookup Dz underlying232 zeroValue3 (lo,hi) true;rw[h4,hf] at hl;simp only[Option.map_none,Option.getD_none,Option.isSome_none,XP] at hl;unfold encE at hl;obtain⟨w',hr,h5,h6⟩:=h3.update Dz underlying232 (lo,hi) (.int .i64 id);have g2:(Instr.mapUpdate 232 (.map (some mb)) (.agg #[.int .i64 lo,.int .i64 hi]) (.int .i64 id)).run prog w=.ok () w':=hr;have g0:AJ o w' v t (putF f (lo,hi) (some id)):=by
  refine⟨h.own,mb,_,(h6.block t (hlt _ _ h.own) (fun e=>by cases e;have:=h.own;rw[h2] at this;cases this)).trans h1,h2,h5,fun k=>?_⟩;rw[Ij h3.nodup,h4];unfold putF;split<;>rfl
 have hc:Chg (· = .tmap v) o o w w':=(Chg.refl _ o w).grown h6 (fun g e=>by cases e;exact⟨_,h2,rfl⟩);have g1:Ab o w':=hlt.mono h6.size;have HF:=Hd g0;have HC:=Hd hc;have HO:=Hd g1;clear h h1 h2 h3 h4 h5 h6 hr g0 hc g1 hlt hf
 delta Pt;go_enter func193,ntmps193
 go_wp2
 go_ret;exact⟨rfl,HF.o,HC.o,HO.o⟩
theorem Ku (o:Own)(v t:Nat)(f:Nat×Nat->Option Nat)(lo hi id:Nat)(w:Wd)(h:AJ o w v t f)(hlt:Ab o w)(hf:f (lo,hi)=some id) :
 Calls prog 191 #[Pt t,.int .i64 lo,.int .i64 hi] w fun x w'=>x=.returned (.int .i64 0)/\AJ o w' v t (putF f (lo,hi) none)/\Chg (· = .tmap v) o o w w'/\Ab o w':=by
 obtain⟨mb,l,h1,h2,h3,h4⟩:=h.ex;have c0:=cell1 h1;have hl:=h3.lookup Dz underlying232 zeroValue3 (lo,hi) true;rw[h4,hf] at hl;simp only[XM,Option.getD_some,Option.isSome_some,XP] at hl;unfold encE at hl;have g1:=fun ty=>h3.delete Dz underlying232 (lo,hi) ty
 obtain⟨w',hr,h5,h6⟩:=g1 0;have g3:(Builtin.delete_ #[232,257] 0 #[.map (some mb),.agg #[.int .i64 lo,.int .i64 hi]]).run prog w=.ok (.tuple #[]) w':=hr;have g0:AJ o w' v t (putF f (lo,hi) none):=by
  refine⟨h.own,mb,_,(h6.block t (hlt _ _ h.own) (fun e=>by cases e;have:=h.own;rw[h2] at this;cases this)).trans h1,h2,h5,fun k=>?_⟩;rw[Pe h3.nodup,h4];unfold putF;split<;>rfl
 have hc:Chg (· = .tmap v) o o w w':=(Chg.refl _ o w).grown h6 (fun g e=>by cases e;exact⟨_,h2,rfl⟩);have g2:Ab o w':=hlt.mono h6.size;have HF:=Hd g0;have HC:=Hd hc;have HO:=Hd g2;clear h h1 h2 h3 h4 h5 h6 hr g0 hc g2 hlt hf g1
 delta Pt;go_enter func191,ntmps191
 go_wp2
 go_ret;exact⟨rfl,HF.o,HC.o,HO.o⟩
theorem Pg (d:Nat)(w:Wd)(a b c a' b' c':Nat):(Op.equalIn (d+2) 258 (.agg #[.int .i64 a,.int .i64 b,.int .i64 c]) (.agg #[.int .i64 a',.int .i64 b',.int .i64 c'])).run prog w=.ok (decide (a=a'/\b=b'/\c=c')) w:=by
 have hq:=fun(x y:Int)=>run_equalIn_int (P:=prog) w d 113 .i64 .i64 x y underlying113
 have s:=Io;cases hi:prog.info? 113 with
 | none=>rw[hi] at s;cases s
 | some i =>
   have hs:=run_sizeOf w hi;rw[show prog.cellsOf 113=1 by kernel_rfl] at hs;have p0:=fun a b c:Nat=>Dy w underlying113 #[.int .i64 a,.int .i64 b,.int .i64 c] 0 _ rfl
   have p1:=fun a b c:Nat=>Dy w underlying113 #[.int .i64 a,.int .i64 b,.int .i64 c] 1 _ rfl
   have p2:=fun a b c:Nat=>Dy w underlying113 #[.int .i64 a,.int .i64 b,.int .i64 c] 2 _ rfl
   unfold Op.equalIn;simp only[XH,Xt underlying258,Xs,hs];simp[List.range',p0,p1,p2,hq];have e1:((a:Int)=a')↔a=a':=by omega
   have e2:((b:Int)=b')↔b=b':=by omega
   have e3:((c:Int)=c')↔c=c':=by omega
   by_cases h1:a=a'<;>by_cases h2:b=b'<;>by_cases h3:c=c'<;>simp[e1,e2,e3,h1,h2,h3]
theorem Ph (w:Wd)(op op':Int)(a b c a' b' c':Nat):(Op.equal 260 (keyV op a b c) (keyV op' a' b' c')).run prog w=.ok (decide (op=op'/\a=a'/\b=b'/\c=c')) w:=by
 have hq:=fun(x y:Int)=>run_equalIn_int (P:=prog) w 9998 3 .i64 .i64 x y underlying3
 have h:=run_equalIn_struct (P:=prog) w 9999 260 #[.int .i64 op,.int .i64 a,.int .i64 b,.int .i64 c] #[.int .i64 op',.int .i64 a',.int .i64 b',.int .i64 c'] (by simp[Program.fieldsOf,underlying260]) (by kernel_rfl);have h3:=Pg 9997 w a b c a' b' c';have hd:Op.maxDepth=9999+1:=rfl;have g0:∀ op a b c:Value,(part 258 #[op,a,b,c] 1).run prog w=.ok (.agg #[a,b,c]) w:=by
  intro op a b c;cases hi:prog.info? 258 with
  | none => have s : (prog.info? 258).map (fun i => i.size) = some 3 := by kernel_rfl
            rw[hi] at s;cases s
  | some i =>
    have hs:=run_sizeOf w hi;rw[show prog.cellsOf 258=3 by kernel_rfl] at hs;simp[part,isAgg,Xt underlying258]
 have g1:∀ op a b c:Value,(part 3 #[op,a,b,c] 0).run prog w=.ok op w:=fun op a b c=>Dy w underlying3 _ 0 _ rfl
 unfold Op.equal keyV;rw[hd,h];simp only[Program.fieldsOf,underlying260];simp[Op.eqFields,g0,g1,hq,h3]
 by_cases h1:op=op'<;>by_cases h2:a=a'<;>by_cases h3:b=b'<;>by_cases h4:c=c'<;>simp[h1,h2,h3,h4]
theorem Pi (w:Wd)(op op':Int)(a b c a' b' c':Nat):(binOp .neq 260 (.agg #[.int .i64 op,.int .i64 a,.int .i64 b,.int .i64 c]) (.agg #[.int .i64 op',.int .i64 a',.int .i64 b',.int .i64 c'])).run prog w=.ok (.bool (!decide (op=op'/\a=a'/\b=b'/\c=c'))) w:=by
 have h:=Ph w op op' a b c a' b' c';unfold keyV at h;simp only[binOp];simp[h]
structure EntD where
 op:Int
 a:Nat
 b:Nat
 c:Nat
 r:Nat
 full:Bool
def entV (e:EntD):List Value:=[.int .i64 e.op,.int .i64 e.a,.int .i64 e.b,.int .i64 e.c,.int .i64 e.r,.bool e.full]
theorem C9 (e:EntD):(entV e).length=6:=rfl
def ent0:EntD:=⟨0,0,0,0,0,false⟩
def Bd (l:List EntD)(i:Nat):EntD:=l.getD i ent0
abbrev Phi:=Int->Nat->Nat->Nat->Nat->Prop
def EV (F:Phi)(l:List EntD):Prop:=∀ i,(Bd l i).full=true->F (Bd l i).op (Bd l i).a (Bd l i).b (Bd l i).c (Bd l i).r
structure AX (o:Own)(w:Wd)(mb:Nat)(F:Phi):Prop where
 own:o mb=some .memo
 ex:∃ ve asked found,w.heap[mb]?=some (.cells #[.int .i64 4096,ve,.int .i64 asked,.int .i64 found] 193 (0,0)) /\
  (ve=.slice none 0 0\/∃ ge cap l,ve=.slice (some ⟨ge,0,none⟩) 4096 cap/\l.length=4096/\RowR o w .entries 264 6 ve 4096 (l.flatMap entV)/\EV F l)
theorem AX.keep {o o':Own}{w w':Wd}{mb:Nat}{F:Phi}(h:AX o w mb F)(hk:∀ g r,o g=some r->(r=.memo\/r=.entries)->w'.heap[g]?=w.heap[g]?)(ho:∀ g r,o g=some r->o' g=some r):AX o' w' mb F:=by
 obtain⟨ve,a,f,h1,h2⟩:=h.ex;refine⟨ho _ _ h.own,ve,a,f,(hk _ _ h.own (.inl rfl)).trans h1,h2.imp id ?_⟩;rintro⟨ge,cap,l,e1,e2,e3,e4⟩;exact⟨ge,cap,l,e1,e2,e3.keep (fun g hg=>hk g _ hg (.inr rfl)) (fun g hg=>ho g _ hg),e4⟩
theorem AX.chg {o:Own}{F:Phi}(h:AX o w mb F)(hc:Chg R o o' w w')(hlt:Ab o w)(h1:¬ R .memo)(h2:¬ R .entries):AX o' w' mb F :=
 h.keep (fun g r hg hr=>hc.same hlt hg (by rcases hr with rfl|rfl<;>assumption)) hc.ext
theorem cells4 {a b c d:Value}(h:w.heap[g]?=some (.cells #[a,b,c,d] T (0,0))):w.cell? ⟨g,0,none⟩=some a/\w.cell? ⟨g,1,none⟩=some b/\w.cell? ⟨g,2,none⟩=some c/\w.cell? ⟨g,3,none⟩=some d/\(∀ k,w.frozen? ⟨g,k,none⟩=false) :=
 ⟨by rw[WQ w g 0 _ _ _ h];rfl,by rw[WQ w g 1 _ _ _ h];rfl,by rw[WQ w g 2 _ _ _ h];rfl,by rw[WQ w g 3 _ _ _ h];rfl,fun k=>by simp[World.frozen?,h]⟩
theorem Ir {o:Own}{m:Nat}{l:List EntD}(h:RowR o w .entries 264 6 (.slice (some ⟨g,0,none⟩) m cap) 4096 (l.flatMap entV))(hl:l.length=4096)(hk:k<4096) :
 w.cell? ⟨g,k*6,none⟩=some (.int .i64 (Bd l k).op)/\w.cell? ⟨g,k*6+1,none⟩=some (.int .i64 (Bd l k).a)/\w.cell? ⟨g,k*6+2,none⟩=some (.int .i64 (Bd l k).b)/\w.cell? ⟨g,k*6+3,none⟩=some (.int .i64 (Bd l k).c) /\
 w.cell? ⟨g,k*6+4,none⟩=some (.int .i64 (Bd l k).r)/\w.cell? ⟨g,k*6+5,none⟩=some (.bool (Bd l k).full):=by
 have hx:l[k]?=some (Bd l k):=by simp[Bd,List.getD,hl,hk]
 have g0:(l.flatMap entV).length=4096*6:=by rw[BP entV 6 C9,hl]
 have e:=fun j (hj:j<6)=>(h.cell (k*6+j) (by rw[g0];omega)).trans (DL entV 6 C9 l k j _ hx hj)
 exact⟨e 0 (by omega),e 1 (by omega),e 2 (by omega),e 3 (by omega),e 4 (by omega),e 5 (by omega)⟩
def Pj (F:Phi)(op:Int)(a b c:Nat)(x:Ending):Prop:=x=.returned (.tuple #[.int .i64 0,.bool false])\/∃ r:Nat,x=.returned (.tuple #[.int .i64 r,.bool true])/\F op a b c r
abbrev XA:=@decide_eq_true
abbrev X8:=@decide_eq_false
theorem Kv (o:Own)(mb:Nat)(F:Phi)(op:Int)(a b c:Nat)(w:Wd)(h:AX o w mb F)(hlt:Ab o w) :
 Calls prog 158 #[Pt mb,.int .i64 op,.int .i64 a,.int .i64 b,.int .i64 c] w fun x w'=>Pj F op a b c x/\AX o w' mb F/\Chg (· = .memo) o o w w'/\Ab o w':=by
 obtain⟨ve,asked,found,gc,hv⟩:=h.ex;obtain⟨c0,c1,c2,c3,f0⟩:=cells4 gc;obtain⟨W,hW⟩:=Ex (w.setCell ⟨mb,2,none⟩ (.int .i64 (wrap64 (asked+1))));have g2:W.heap[mb]?=some (.cells #[.int .i64 4096,ve,.int .i64 (wrap64 (asked+1)),.int .i64 found] 193 (0,0)):=by rw[hW];exact Az gc _
 have g9:Chg (· = .memo) o o w W:=by rw[hW];exact Chg.setCell (R:=(· = .memo)) (Chg.refl _ o w) (p:=⟨mb,2,none⟩) h.own rfl _
 have gd:Ab o W:=hlt.mono g9.size;rcases hv with rfl|⟨ge,cap,l,rfl,hl,gh,gk⟩
 ·have g6:AX o W mb F:=⟨h.own,_,_,_,g2,.inl rfl⟩;have HF:=Hd g6;have HC:=Hd g9;have HL:=Hd gd;have HW:=Hd hW;obtain⟨d0,d1,d2,d3,g0⟩:=cells4 g2;rw[hW] at d0 d1 d2 d3 g0;clear h hlt gc g2 g9 gd g6 hW
  delta Pt;go_enter func158,ntmps158
  go_wp2_with fail
  go_ret2
  rw[<- HW.o];exact⟨.inl rfl,HF.o,HC.o,HL.o⟩
 ·have gi:RowR o W .entries 264 6 (.slice (some ⟨ge,0,none⟩) 4096 cap) 4096 (l.flatMap entV):=gh.chg g9 hlt (by simp);have g6:AX o W mb F:=⟨h.own,_,_,_,g2,.inr ⟨ge,cap,l,rfl,hl,gi,gk⟩⟩;obtain⟨d0,d1,d2,d3,g0⟩:=cells4 g2;have hB:=(Af W (.cells #[.int .i64 op,.int .i64 a,.int .i64 b,.int .i64 c] 260));have e1:=Cq hB d1;have go:=Hd (Kq mb ge cap op a b c _ e1);have hz:W.heap.size=w.heap.size:=by rw[hW];simp[World.setCell]
  obtain⟨bx,gm⟩:=Ex w.heap.size;obtain⟨WK,gg⟩:=Ex (W.alloc (.cells #[.int .i64 op,.int .i64 a,.int .i64 b,.int .i64 c] 260));have gu:WK.heap[bx]?=some (.cells #[.int .i64 op,.int .i64 a,.int .i64 b,.int .i64 c] 260 (0,0)):=by rw[gg,gm,<- hz];exact WN W _
  rw[<- gg] at go hB;have gI:=Hd g6;have gG:=Hd g9;have gq:=Hd gd;have gC:=Hd gi;have HL:=Hd hl;have gp:=Hd gk;have HB:=Hd hB;have gw:=Hd gu;have gE:=Hd g2;have g8:=Hd h.own;have HW:=Hd hW;have gB:=Hd gg;have HZ:=Hd hz;have gH:=Hd gm;rw[hW] at d0 d1 d2 d3 g0;have lmb:mb<w.heap.size:=Ag c0;clear h hlt gc g2 g9 gd g6 hW gi gk hl gh hB gu gg gm hz e1
  delta Pt;go_enter func158,ntmps158
  go_wp2_with fail;rw[<- HW.o,<- gB.o,<- gH.o];refine go.o.mono ?_;rintro x w2 ⟨i,hi,rfl,gn⟩;have g7:Bw W w2:=HB.o.trans (gn.mono HB.o.size);have g3:=gC.o.below gq.o g7;have ga:=(g7.block mb (gq.o _ _ g8.o)).trans gE.o;have gl:=(gn.block bx (WL.1 gw.o).1).trans gw.o;have gv:Chg (· = .memo) o o w w2:=gG.o.trans (Chg.of_below g7 _ _);have gt:Ab o w2:=gq.o.mono g7.size;obtain⟨E,hE⟩:∃ E,Bd (l:=l) i=E:=⟨_,rfl⟩;obtain⟨n0,n1,n2,n3,n4,n5⟩:=Ir g3 HL.o hi;rw[hE] at n0 n1 n2 n3 n4 n5;obtain⟨k0,k1,k2,k3,fk⟩:=cells4 gl;clear d0 d1 d2 d3 g0 c0 c1 c2 c3 f0 lmb;obtain⟨d0,d1,d2,d3,g0⟩:=cells4 ga;have gf:AX o w2 mb F:=⟨g8.o,_,_,_,ga,.inr ⟨ge,cap,l,rfl,HL.o,g3,gp.o⟩⟩;have gx:=Hd gf;have gs:=Hd gv;have gr:=Hd gt;have gz:=Hd ga;have gD:=Hd g3;have gy:=Hd hE;clear gf gv gt gn g7 g3 ga gl hE go;have g4:=Pi
  by_cases g1:E.full=true
  ·rw[g1] at n5;have gF:=Hd g1
   by_cases g5:E.op=op/\E.a=a/\E.b=b/\E.c=c
   ·have hd:decide (E.op=op/\E.a=a/\E.b=b/\E.c=c)=true:=XA g5;have gA:∀ w,(binOp .neq 260 (.agg #[.int .i64 E.op,.int .i64 E.a,.int .i64 E.b,.int .i64 E.c]) (.agg #[.int .i64 op,.int .i64 a,.int .i64 b,.int .i64 c])).run prog w=.ok (.bool false) w:=fun w=>by rw[g4,hd];rfl
    have HK:=Hd g5;clear g4 hd g5 g1;go_wp2_with fail
    go_quiet (fail)
    go_wp2_with fail
    go_ret2
    have gj:=gp.o i (by rw[gy.o];exact gF.o);rw[gy.o,HK.o.1,HK.o.2.1,HK.o.2.2.1,HK.o.2.2.2] at gj;refine⟨.inr ⟨E.r,rfl,gj⟩,⟨g8.o,_,_,_,Az (w:=w2.drewN nq) gz.o _,.inr ⟨ge,cap,l,rfl,HL.o,?_,gp.o⟩⟩,Chg.setCell (R:=(· = .memo)) (gs.o.drewN nq) (p:=⟨mb,3,none⟩) g8.o rfl _,gr.o.mono (by simp[World.setCell])⟩;exact(gD.o.keep (w':=w2.drewN nq) (fun _ _=>rfl) (fun _ h=>h)).setCell_other (p:=⟨mb,3,none⟩) (by rw[g8.o];simp) _
   ·have hd:decide (E.op=op/\E.a=a/\E.b=b/\E.c=c)=false:=X8 g5;have gA:∀ w,(binOp .neq 260 (.agg #[.int .i64 E.op,.int .i64 E.a,.int .i64 E.b,.int .i64 E.c]) (.agg #[.int .i64 op,.int .i64 a,.int .i64 b,.int .i64 c])).run prog w=.ok (.bool true) w:=fun w=>by rw[g4,hd];rfl
    clear g4 hd g5 g1;go_wp2_with fail
    go_quiet (fail)
    go_wp2_with fail
    go_ret2
    exact⟨.inl rfl,gx.o.keep (fun _ _ _ _=>rfl) (fun _ _ h=>h),gs.o.drewN _,gr.o⟩
  ·have gb:E.full=false:=by simpa using g1
   rw[gb] at n5;clear g4 g1 gb;go_wp2_with fail
   go_quiet (fail)
   go_wp2_with fail
   go_ret2
   exact⟨.inl rfl,gx.o.keep (fun _ _ _ _=>rfl) (fun _ _ h=>h),gs.o.drewN _,gr.o⟩
theorem Kw:(prog.info? 264).map (fun i=>(i.zero,i.size,i.bytes))=some (some (.agg #[.int .i64 0,.int .i64 0,.int .i64 0,.int .i64 0,.int .i64 0,.bool false]),6,48):=by kernel_rfl
abbrev Ze:=@List.getElem?_replicate
theorem Kx (n:Nat):(madeCells #[.int .i64 0,.int .i64 0,.int .i64 0,.int .i64 0,.int .i64 0,.bool false] (n*6)).toList=(List.replicate n ent0).flatMap entV:=by
 apply List.ext_getElem?;intro i;simp only[madeCells,Array.toList_map,Array.toList_range,XC]
 by_cases hi:i<n*6
 ·have e:=DL entV 6 C9 (List.replicate n ent0) (i/6) (i%6) ent0 (by rw[Ze,WR (by omega)]) (by omega);rw[show i/6*6+i%6=i by omega] at e;rw[e,List.getElem?_range hi];have hm:i%6=0\/i%6=1\/i%6=2\/i%6=3\/i%6=4\/i%6=5:=by omega
  simp only[XM];rcases hm with h|h|h|h|h|h<;>simp[h,entV,ent0]
 ·have hl:((List.replicate n ent0).flatMap entV).length=n*6:=by rw[BP entV 6 C9];simp
  rw[Xb (l:=(List.replicate n ent0).flatMap entV) (by omega),Xb (by simp;omega)];rfl
theorem Pk:(prog.info? 264).map (fun i=>i.size)=some 6:=by kernel_rfl
def set6 (w:Wd)(g k:Nat)(e:EntD):Wd :=
 (((((w.setCell ⟨g,k*6,none⟩ (.int .i64 e.op)).setCell ⟨g,k*6+1,none⟩ (.int .i64 e.a)).setCell ⟨g,k*6+2,none⟩ (.int .i64 e.b)).setCell ⟨g,k*6+3,none⟩ (.int .i64 e.c)).setCell ⟨g,k*6+4,none⟩ (.int .i64 e.r)).setCell ⟨g,k*6+5,none⟩ (.bool e.full)
theorem Ky (f:∀ j,w.frozen? ⟨g,j,none⟩=false){u0 u1 u2 u3 u4 u5:Value}(c0:w.cell? ⟨g,k*6,none⟩=some u0)(c1:w.cell? ⟨g,k*6+1,none⟩=some u1)(c2:w.cell? ⟨g,k*6+2,none⟩=some u2)(c3:w.cell? ⟨g,k*6+3,none⟩=some u3)(c4:w.cell? ⟨g,k*6+4,none⟩=some u4)(c5:w.cell? ⟨g,k*6+5,none⟩=some u5)(E:EntD) :
 (Instr.storeAt 264 (.pointer (some ⟨g,k*6,none⟩)) (.agg #[.int .i64 E.op,.int .i64 E.a,.int .i64 E.b,.int .i64 E.c,.int .i64 E.r,.bool E.full])).run prog w=.ok () (set6 w g k E):=by
 have s:=Pk;have g0:∀ j,(⟨g,k*6,none⟩:Addr).add j=⟨g,k*6+j,none⟩:=fun j=>by unfold Addr.add;split<;>simp_all
 have g1:(Instr.sureAddr (Value.pointer (some ⟨g,k*6,none⟩))).run prog w=.ok ⟨g,k*6,none⟩ w:=rfl;cases hi:prog.info? 264 with
 | none=>rw[hi] at s;cases s
 | some i =>
   rw[hi] at s;simp only[XM,X0] at s;have fz:∀ (w':Wd) p v j,(w'.setCell p v).frozen? ⟨g,j,none⟩=w'.frozen? ⟨g,j,none⟩:=fun w' p v j=>Yi _ _ _ _
   obtain⟨v1,e1⟩:=AU (p:=⟨g,k*6,none⟩) (v:=.int .i64 E.op) c1;obtain⟨v2,e2⟩:=AU (p:=⟨g,k*6,none⟩) (v:=.int .i64 E.op) c2;obtain⟨v2,e2⟩:=AU (p:=⟨g,k*6+1,none⟩) (v:=.int .i64 E.a) e2;obtain⟨v3,e3⟩:=AU (p:=⟨g,k*6,none⟩) (v:=.int .i64 E.op) c3;obtain⟨v3,e3⟩:=AU (p:=⟨g,k*6+1,none⟩) (v:=.int .i64 E.a) e3;obtain⟨v3,e3⟩:=AU (p:=⟨g,k*6+2,none⟩) (v:=.int .i64 E.b) e3;obtain⟨v4,e4⟩:=AU (p:=⟨g,k*6,none⟩) (v:=.int .i64 E.op) c4;obtain⟨v4,e4⟩:=AU (p:=⟨g,k*6+1,none⟩) (v:=.int .i64 E.a) e4;obtain⟨v4,e4⟩:=AU (p:=⟨g,k*6+2,none⟩) (v:=.int .i64 E.b) e4;obtain⟨v4,e4⟩:=AU (p:=⟨g,k*6+3,none⟩) (v:=.int .i64 E.c) e4;obtain⟨v5,e5⟩:=AU (p:=⟨g,k*6,none⟩) (v:=.int .i64 E.op) c5;obtain⟨v5,e5⟩:=AU (p:=⟨g,k*6+1,none⟩) (v:=.int .i64 E.a) e5;obtain⟨v5,e5⟩:=AU (p:=⟨g,k*6+2,none⟩) (v:=.int .i64 E.b) e5;obtain⟨v5,e5⟩:=AU (p:=⟨g,k*6+3,none⟩) (v:=.int .i64 E.c) e5;obtain⟨v5,e5⟩:=AU (p:=⟨g,k*6+4,none⟩) (v:=.int .i64 E.r) e5;have s0:=Cw (P:=prog) (v:=.int .i64 E.op) c0 (f _) rfl;have s1:=Cw (P:=prog) (v:=.int .i64 E.a) e1 (by rw[fz];exact f _) rfl;have s2:=Cw (P:=prog) (v:=.int .i64 E.b) e2 (by rw[fz,fz];exact f _) rfl;have s3:=Cw (P:=prog) (v:=.int .i64 E.c) e3 (by rw[fz,fz,fz];exact f _) rfl;have s4:=Cw (P:=prog) (v:=.int .i64 E.r) e4 (by rw[fz,fz,fz,fz];exact f _) rfl;have s5:=Cw (P:=prog) (v:=.bool E.full) e5 (by rw[fz,fz,fz,fz,fz];exact f _) rfl;simp only[Instr.storeAt,XH,g1,Xs];simp[storeVar,sizeOf,typeInfo,hi,s,Value.cells,storeCells,g0,s0,s1,s2,s3,s4,s5,set6]
theorem Pl (xs:List Value)(k:Nat)(a b c d e f:Value)(h:k+6<=xs.length):(((((xs.set k a).set (k+1) b).set (k+2) c).set (k+3) d).set (k+4) e).set (k+5) f=xs.take k++[a,b,c,d,e,f]++xs.drop (k+6):=by
 apply List.ext_getElem?;intro i;simp only[Xv,Xi]
 by_cases h0:i<k
 . rw[Xj (by simp;omega),Xj (by simp;omega),Yz,WR h0];rw[WO (by omega),WO (by omega),WO (by omega),WO (by omega),WO (by omega),WO (by omega)]
 ·by_cases h1:i<k+6
  ·rw[Xj (by simp;omega),Xu (by simp;omega)];have hl:(xs.take k).length=k:=by simp;omega
   rw[hl];have:i=k\/i=k+1\/i=k+2\/i=k+3\/i=k+4\/i=k+5:=by omega
   rcases this with rfl|rfl|rfl|rfl|rfl|rfl<;>(simp;omega)
  . rw[WO (by omega),WO (by omega),WO (by omega),WO (by omega),WO (by omega),WO (by omega)];rw[Xu (by simp;omega)];simp only[WY,Yk,Xm,XS,Y0];congr 1;omega
theorem Pm {o:Own}{m:Nat}{l:List EntD}(h:RowR o w .entries 264 6 (.slice (some ⟨g,0,none⟩) m cap) l.length (l.flatMap entV))(hk:k<l.length)(E:EntD) :
 RowR o (set6 w g k E) .entries 264 6 (.slice (some ⟨g,0,none⟩) m cap) l.length ((l.set k E).flatMap entV):=by
 have h6:=(((((h.stored (k*6) (.int .i64 E.op)).stored (k*6+1) (.int .i64 E.a)).stored (k*6+2) (.int .i64 E.b)).stored (k*6+3) (.int .i64 E.c)).stored (k*6+4) (.int .i64 E.r)).stored (k*6+5) (.bool E.full);have hl:(l.flatMap entV).length=l.length*6:=BP entV 6 C9 _;rw[Pl _ _ _ _ _ _ _ _ (by rw[hl];omega)] at h6;rw[Ib entV 6 C9 l k E hk];exact h6
theorem Pn {E:EntD}(hb:b≠g):(set6 w g k E).heap[b]?=w.heap[b]?:=by
 unfold set6;rw[Aw hb,Aw hb,Aw hb,Aw hb,Aw hb,Aw hb]
theorem Kz {o:Own}{E:EntD}(h:Chg R o o' w0 w)(hg:o' g=some .entries)(hR:R .entries):Chg R o o' w0 (set6 w g k E) :=
 (((((h.setCell (p:=⟨g,k*6,none⟩) hg hR _).setCell (p:=⟨g,k*6+1,none⟩) hg hR _).setCell (p:=⟨g,k*6+2,none⟩) hg hR _).setCell (p:=⟨g,k*6+3,none⟩) hg hR _).setCell (p:=⟨g,k*6+4,none⟩) hg hR _).setCell (p:=⟨g,k*6+5,none⟩) hg hR _
theorem Po {F:Phi}{l:List EntD}(h:EV F l)(k:Nat){E:EntD}(hE:F E.op E.a E.b E.c E.r):EV F (l.set k E):=by
 intro i hi
 by_cases e:i=k/\k<l.length
 ·obtain⟨rfl,hk⟩:=e;have:Bd (l.set i E) i=E:=by simp[Bd,List.getD,hk]
  rw[this];exact hE
 ·have:Bd (l.set k E) i=Bd l i:=by
   simp only[Bd,List.getD,Xv]
   by_cases e1:k=i
   ·rw[WR e1];have:¬ k<l.length:=fun h'=>e ⟨e1.symm,h'⟩
    rw[WO this];subst e1;rw[Xb (by omega)]
   . rw[WO e1]
  rw[this] at hi ⊢;exact h i hi
end Go.Proofs.YtgmbklaolcmljaaGreat
