/- Several texts in one file: contracts of the program's functions and what follows from them. -/
import Derived.Test.YtnphndlbfeagbaaGreatRows
import Derived.WalkKit
import Derived.WalkSpells
import Derived.WalkLawsBesides
import Derived.Lib.Hide
import Derived.BigQuiet
import Derived.Deep.QuietTactic
import Derived.Deep.LoopGhost
import Derived.Deep.RegionWith
import Derived.Laws.CopyOwn
import Derived.Laws.AppendOwnNone
import Derived.Maps.AppendAt
import Derived.OwnWalk
import Derived.Laws.Bits64
import Derived.OrdersHeld
import Derived.KernelRfl
import Derived.Deep.CutBlock
import Derived.Deep.DeepCutAuto
import Derived.MapKept
import Derived.ChangeKeysEq
import Derived.Maps.OwnSet
import Derived.Laws.MakeOwn
set_option linter.all false
set_option maxRecDepth 100000
set_option maxHeartbeats 8000000
namespace Go.Proofs.YtnphndlbfeagbaaGreat
open Go.Proofs.Tryz
open Go.RowKit
def Hq(p:Prop):Prop:=p
def Hq.o{p:Prop}(h:Hq p):p:=h
def Hd{p:Prop}(h:p):Hq p:=h
abbrev Wd:=World
abbrev Iv(n:Int):Value:=.int .i64 n
abbrev Pt(b:Nat):Value:=.pointer (some ⟨b,0,none⟩)
abbrev Av(b:Nat):Addr:=⟨b,0,none⟩
abbrev Aw(b k:Nat):Addr:=⟨b,k,none⟩
abbrev Cl:=Calls prog
abbrev Sm(v:Value)(w:World):Ending->World->Prop:=λx w'=>x=.returned v/\w=w'
abbrev Bl(v:Value)(w:World):Ending->World->Prop:=λx w'=>x=.returned v/\Below w.heap.size w w'
abbrev Bw(w w':World):Prop:=Below w.heap.size w w'
def Ex{α:Sort _}(a:α):∃y,y=a:=⟨_,rfl⟩
abbrev Z5:=@World.block_lt_of_cell?
def Cq{w w':World}{b k:Nat}{v:Value}(h:Below w.heap.size w w')(e:w.cell? ⟨b,k,none⟩=some v):w'.cell? ⟨b,k,none⟩=some v:=(h.cell (p:=⟨b,k,none⟩) (Z5 w _ e)).trans e
abbrev XR:=@World.cell?_of_block
def Co{w w':World}{b k:Nat}{v:Value}(f:w.cell? ⟨b,k,none⟩=some v)(e:w'.heap[b]?=w.heap[b]?):w'.cell? ⟨b,k,none⟩=some v:=(XR (w:=w) (a:=⟨b,k,none⟩) e).trans f
variable {L:Array Bool}{P:Program}{Q:Exit->Act->Wd->Prop}{S:Wd->Prop}{T t:TypeId}{W w w' w'' w0 wr wx:Wd}{a:Act}{b c e g gf i id j k k' mb n pb q x:Nat}{l rest:List Oper}{last:Bool}{ops:Array Oper}{u v v' vf:Value}{xs:List Value}{zs:List Int}

def Ab:(∀(a:Act) (d:Tmp) (v:Value),a.put (some d) v={ a with tmps:=a.tmps.setIfInBounds d v })/\(∀(a:Act) (v:Value),a.put none v=a)/\(∀(l:List Value) (i:Nat) (x:Value),l.toArray.setIfInBounds i x=(l.set i x).toArray)/\(∀(l:List Value) (x y:Value),(x::l).set 0 y=y::l)/\(∀(l:List Value) (n:Nat) (x y:Value),(x::l).set (n+1) y=x::l.set n y):=
 ⟨λ_ _ _=>rfl,λ_ _=>rfl,λ_ _ _=>List.setIfInBounds_toArray ..,λ_ _ _=>rfl,λ_ _ _ _=>rfl⟩
abbrev Yd:=@Option.some.injEq
def Cx:(∀(l:List Oper) (x:Oper),(x::l)[0]?=some x)/\(∀(l:List Oper) (n:Nat) (x:Oper),(x::l)[n+1]?=l[n]?)/\(∀x y:Oper,(some x=some y)=(x=y)):=
 ⟨λ_ _=>rfl,λ_ _ _=>rfl,λx y=>Yd x y⟩
abbrev Yy:=@List.mem_cons
abbrev ZQ:=@List.not_mem_nil
def CA:(∀(l:List Nat) (a b:Nat),(a∈b::l)=(a=b\/a∈l))/\(∀a:Nat,(a∈([]:List Nat))=False)/\(∀p:Prop,(p\/False)=p):=
 ⟨λ_ _ _=>propext Yy,λ_=>eq_false ZQ,λp=>or_false p⟩
def AI:(∀(f:Nat×Bool->Option Oper×Bool) (a:Nat×Bool) (l:List (Nat×Bool)),(a::l).map f=f a::l.map f)/\(∀f:Nat×Bool->Option Oper×Bool,[].map f=[])/\(∀(l:List Oper) (n:Nat) (x:Oper),(x::l)[n+1]?=l[n]?)/\(∀(l:List Oper) (x:Oper),(x::l)[0]?=some x):=
 ⟨λ_ _ _=>rfl,λ_=>rfl,λ_ _ _=>rfl,λ_ _=>rfl⟩
open Go.Maps
def Iu {a b:Int}(h:a=b):Ending.returned (Iv a)=.returned (Iv b):=by rw[h]
def CJ {a b:Bool}(h:a=b):Ending.returned (.bool a)=.returned (.bool b):=by rw[h]
def CB {B:Nat}{a:Wd}(h:Below B a w)(n:Nat):Below B a (w.drewN n):=Go.below_drewN h n
def at0 (zs:List Int)(k:Nat):Int:=zs.getD k 0
def A8 (h:k<zs.length):at0 zs k=zs[k]:=by simp[at0,List.getD,h]
abbrev Xy:=@List.getElem?_eq_getElem
def getElem?_at0 (h:k<zs.length):zs[k]?=some (at0 zs k):=by rw[A8 h];exact Xy h
def Ar (zs:List Int):List Value:=zs.map (Value.int .i64)
def Iw (zs:List Int):(Ar zs).length=zs.length:=by simp[Ar]
structure Aj (w:Wd)(a:Option Addr)(zs:List Int):Prop where
 len:zs.length<=9223372036854775807
 cells:∀k,k<zs.length->∃b off,a=some (Aw b off)/\w.cell? (Aw b (off+k))=some (Iv (at0 zs k))
def Ad {p:Addr}(h:w.cell? p=some v):p.block<w.heap.size:=Z5 w p h
def Aj.below {a:Option Addr}(h:Aj w a zs)(hb:Bw w w'):Aj w' a zs:=
 ⟨h.len,λk hk=>by
  obtain⟨b,off,rfl,H⟩:=h.cells k hk;exact⟨b,off,rfl,by rw[hb.cell (p:=(Aw b (off+k))) (Ad H)];exact H⟩⟩
def K8 (w:Wd)(v:Value)(zs:List Int):Prop:=∃a c,v=.slice a zs.length c/\Aj w a zs
abbrev ZL:=@Value.slice.injEq
abbrev XO:=@Nat.zero_add
abbrev Yq:=@List.getElem?_map
def K9 {base:Nat}{a:Option Addr}(hl:zs.length<=9223372036854775807)
 (h:w.ownsRow base e 1 (.slice a n c) n (Ar zs)):Aj w a zs:=by
 refine⟨hl,λk hk=>?_⟩;rcases h.2 with ⟨H,h0⟩|⟨g,cap,I,H,_⟩
 . have:=h.1;rw[Iw]at this;omega
 . simp only[ZL]at H;obtain⟨rfl,_,rfl⟩:=H;refine⟨g,0,rfl,?_⟩;have h1:=h.1;rw[Iw]at h1;have:=h.cellAt k (by omega);rw[XO,this,Ar,Yq,getElem?_at0 hk];rfl
abbrev YC:=@List.eq_nil_of_length_eq_zero
def Po {base:Nat}(hl:zs.length<=9223372036854775807)
 (h:w.ownsRow base e 1 v zs.length (Ar zs)):K8 w v zs:=by
 rcases h.2 with ⟨rfl,h0⟩|⟨g,cap,H,rfl,_⟩
 . have:zs=[]:=YC h0;subst this;exact⟨none,0,rfl,by simp,by simp⟩
 . exact⟨_,_,rfl,K9 hl h⟩
def OwnI (w:Wd)(base:Nat)(v:Value)(zs:List Int):Prop:=w.ownsRow base 3 1 v zs.length (Ar zs)
def OwnI.alloc {w:Wd}{base:Nat}{v:Value}{zs:List Int}(h:OwnI w base v zs)(o:Obj):OwnI (w.alloc o) base v zs:=World.ownsRow.alloc h o
def OwnI.drewN {w:Wd}{base:Nat}{v:Value}{zs:List Int}(h:OwnI w base v zs)(n:Nat):OwnI (w.drewN n) base v zs:=h
def OwnI.below {base:Nat}(h:OwnI w base v zs)(hb:Bw w w'):OwnI w' base v zs:=by
 refine World.ownsRow.kept (row:=none) h ⟨hb.os,hb.tape,hb.output,hb.size,λk hk _=>hb.block k hk⟩ ?_;cases v.ownBlock<;>simp
def OwnI.lt {w:Wd}{base:Nat}{v:Value}{zs:List Int}(h:OwnI w base v zs):∀k,v.ownBlock=some k->base<=k/\k<w.heap.size:=World.ownsRow.lt h
def OwnI.sliceOf {base:Nat}(h:OwnI w base v zs)(hl:zs.length<=9223372036854775807):K8 w v zs:=Po hl h
def Ga (w:Wd)(base:Nat)(hb:base<=w.heap.size):OwnI (w.alloc (.cells #[] 3)) base (.slice (some (Av w.heap.size)) 0 0) []:=
 World.ownsRow_made w #[] 0 hb (by unfold maxLen;omega) (by simp)
def Fk (w:Wd)(base:Nat):OwnI w base (.slice none 0 0) []:=World.ownsRow_nil w base 3 1
def CW (row:Option Nat)(w w':Wd):Prop:=∀k,k<w.heap.size->some k≠row->w'.heap[k]?=w.heap[k]?
abbrev X1:=@Go.heap_alloc_old
def Gb {row:Option Nat}{o:Obj}(h:(w.alloc o).grownBy w' row):CW row w w':=λk hk H=>by
 rw[h.block k (by simp;omega) H,X1 w o hk]
def Fl {row:Option Nat}(h:w.grownBy w' row):CW row w w':=λk hk H=>h.block k hk H
def KA (row:Option Nat)(w:Wd):CW row w w:=λ_ _ _=>rfl
def Aj.keep {row:Option Nat}{a:Option Addr}(h:Aj w a zs)(hk:CW row w w')(H:∀x,a=some x->some x.block≠row):Aj w' a zs:=
 ⟨h.len,λk I=>by
  obtain⟨b,off,rfl,O⟩:=h.cells k I;exact⟨b,off,rfl,Co O (hk b (Ad O) (H _ rfl))⟩⟩
abbrev Xt:=@Array.getElem?_eq_some_iff
def OwnI.keep {row:Option Nat}{base:Nat}(h:OwnI w base v zs)(hk:CW row w w')(H:∀k,v.ownBlock=some k->some k≠row):OwnI w' base v zs:=by
 refine⟨h.1,?_⟩;rcases h.2 with O|⟨g,cap,I,rfl,hb,g0,rest⟩
 . exact .inl O
 . refine .inr ⟨g,cap,I,rfl,hb,?_,rest⟩;rw[hk g (Xt.1 g0).1 (H g rfl)];exact g0
structure BG (v v':Value)(w w':Wd):Prop where
 keep:CW v.ownBlock w w'
 loc:v'.ownBlock=v.ownBlock\/∃k,v'.ownBlock=some k/\w.heap.size<=k
def BG.ne (h:BG v v' w w')(H:v.ownBlock≠some g)(I:g<w.heap.size):v'.ownBlock≠some g:=by
 rcases h.loc with e|⟨k,e,hk⟩
 . rw[e];exact H
 . rw[e];intro hh;cases hh;omega
def E8:(prog.info? 3).map (λi=>(i.zero,i.size,i.bytes))=some (some (Iv 0),1,8):=by kernel_rfl
abbrev Zm:=@info_parts
abbrev ZM:=@wpList_append_own_at
theorem D7 (wr:Wd){o:Oper}(O:o.guard=none)(s x:Operand)
 (Y:o.op=.call { callee:=.builtin .append,args:=#[s,x],argTypes:=#[22,22] })
 (base:Nat) (w0:Wd) (v:Value) (zs:List Int) (y:Int) (hs:a.eval s=v) {N:Nat} (hx:a.eval x=.slice (some (Av N)) 1 1)
 (Z:W=wr.alloc (.cells #[Iv y] 3)) (b:N=wr.heap.size)
 (H:OwnI wr base v zs) (U:zs.length<1099511627776) (I:base<=wr.heap.size) (hb:Below base w0 wr)
 (h:∀v' w',OwnI w' base v' (zs++[y])->Below base w0 w'->base<=w'.heap.size->BG v v' wr w'->wpList prog ops Q rest (a.put o.dst v') w'):
 wpList prog ops Q (o::rest) a W:=by
 obtain⟨i,hi,X,g1,g2⟩:=Zm E8;subst b;subst Z
 refine ZM (w:=wr.alloc (.cells #[Iv y] 3)) O s x 22 Y base 3 i (Iv 0) 1 8 underlying22 hi X g1 g2 rfl (by decide)
  v zs.length (Ar zs) hs (H.alloc _) (Av wr.heap.size) 1 1 [Iv y] hx rfl (cell_one_new _ _ _) (ints_oneCell .i64 [y]) (by unfold maxLen;omega) (by omega) (by simp;omega) ?_
 intro v' w' h1 h2 _ g0;refine h v' w' ?_ ?_ ?_ ⟨Gb h2,g0.imp id λe=>⟨_,e,by simp⟩⟩
 ·unfold OwnI;have e1:(zs++[y]).length=zs.length+1:=by simp
  have e2:Ar (zs++[y])=Ar zs++[Iv y]:=by simp[Ar]
  rw[e1,e2];exact h1
 . exact(hb.alloc I _).grown h2 (by simp;omega) (λk hk=>(H.lt k hk).1)
 . have:=h2.size;simp at this;omega
abbrev ZC:=@Nat.eq_zero_or_pos
abbrev X9:=@Nat.lt_or_ge
abbrev XC:=@List.getElem?_eq_none
abbrev Xs:=@Nat.le_refl
theorem Ix {o:Oper}(Y:o.guard=none)(s x:Operand)
 (g:o.op=.call { callee:=.builtin .append,args:=#[s,x],argTypes:=#[22,22] })
 (base:Nat) (w0:Wd) (v:Value) (zs H:List Int) (Z:Option Addr) (c:Nat) (hs:a.eval s=v) (hx:a.eval x=.slice Z H.length c)
 (O:OwnI wr base v zs) (U:Aj wr Z H) (l:zs.length+H.length<1099511627776) (I:base<=wr.heap.size) (hb:Below base w0 wr)
 (X:Z=none->c=0)
 (h:∀v' w',OwnI w' base v' (zs++H)->Below base w0 w'->base<=w'.heap.size->BG v v' wr w'->wpList prog ops Q rest (a.put o.dst v') w'):
 wpList prog ops Q (o::rest) a wr:=by
 obtain⟨i,hi,m,g3,g4⟩:=Zm E8;cases Z with
 | none=>
   have h0:H=[]:=by
    apply YC;rcases ZC H.length with h0|h0
    . exact h0
    . obtain⟨b,off,hh,_⟩:=U.cells 0 h0;cases hh
   subst h0;obtain rfl:=X rfl;refine wpList_append_own_none (w:=wr) Y s x 22 g base 3 i 1 underlying22 hi v zs.length (Ar zs) hs O hx ?_;exact h v wr (by simpa using O) hb I ⟨KA _ _,.inl rfl⟩
 | some p=>
   refine ZM (w:=wr) Y s x 22 g base 3 i (Iv 0) 1 8 underlying22 hi m g3 g4 rfl (by decide)
    v zs.length (Ar zs) hs O p H.length c (Ar H) hx (by simp[Ar]) ?_ (ints_oneCell .i64 H) (by unfold maxLen;omega) (by omega) I ?_
   ·intro j u d;have g0:j<H.length:=by
     rcases X9 j H.length with f|f
     . exact f
     . simp[Ar,XC f]at d
    obtain⟨b,off,g5,n⟩:=U.cells j g0;cases g5;simp[Ar,getElem?_at0 g0]at d;subst d;have g2:((Aw b off):Addr).add j=(Aw b (off+j)):=by unfold Addr.add;split<;>simp_all
    rw[g2];exact n
   ·intro v' w' h1 h2 _ g1;refine h v' w' ?_ ?_ ?_ ⟨Fl h2,g1.imp id λe=>⟨_,e,Xs _⟩⟩
    ·unfold OwnI;have e1:(zs++H).length=zs.length+H.length:=by simp
     have e2:Ar (zs++H)=Ar zs++Ar H:=by simp[Ar]
     rw[e1,e2];exact h1
    . exact hb.grown h2 I (λk hk=>(O.lt k hk).1)
    . have:=h2.size;omega
def OwnI.cell {w:Wd}{base g cap n:Nat}{zs:List Int}(h:OwnI w base (.slice (some (Av g)) n cap) zs)(k:Nat)(hk:k<zs.length):
 w.cell? (Aw g k)=some (Iv (at0 zs k)):=by
 have I:n=zs.length:=by
  rcases h.2 with ⟨H,_⟩|⟨_,_,_,H,_⟩
  . cases H
  . cases H;rfl
 subst I;have:=World.ownsRow.cellAt h k (by omega);rw[this,Ar,Yq,getElem?_at0 hk];rfl
def OwnI.frozen {w:Wd}{base g cap n:Nat}{zs:List Int}(h:OwnI w base (.slice (some (Av g)) n cap) zs)(k:Nat):
 w.frozen? (Aw g k)=false:=by
 rcases h.2 with ⟨H,_⟩|⟨_,_,_,H,_⟩
 . cases H
 . cases H;exact World.ownsRow.frozenAt h k
abbrev XE:=@List.length_set
abbrev Zp:=@List.map_set
def OwnI.stored {w:Wd}{base g cap n:Nat}{zs:List Int}(h:OwnI w base (.slice (some (Av g)) n cap) zs)(k:Nat)(y:Int):
 OwnI (w.setCell (Aw g k) (Iv y)) base (.slice (some (Av g)) n cap) (zs.set k y):=by
 rcases h.2 with ⟨H,_⟩|⟨_,_,_,H,_⟩
 . cases H
 ·cases H;have:=(World.ownsRow.stored h k (Iv y)).1;unfold OwnI;rw[XE];have e:Ar (zs.set k y)=(Ar zs).set k (Iv y):=by simp[Ar,Zp]
  rw[e];exact this
def OwnI.setCell_other {base:Nat}(h:OwnI w base v zs){a:Addr}(H:v.ownBlock≠some a.block)(u:Value):OwnI (w.setCell a u) base v zs:=ownsRow_setCell_other h H u
def CC {o:Nat}(h:w.cell? (Aw b q)=some u)(H:g≠b\/o≠q):(w.setCell (Aw g o) v).cell? (Aw b q)=some u:=by
 rw[World.cell?_setCell_other w (Aw g o) (Aw b q) v (by intro e;cases e;simp at H)];exact h
def SliceIs (w:Wd)(v:Value)(zs:List Int):Prop:=∃a c,v=.slice a zs.length c/\Aj w a zs/\(a=none->c=0)
def SliceIs.below {w w':Wd}{v:Value}{zs:List Int}(h:SliceIs w v zs)(hb:Bw w w'):SliceIs w' v zs:=by
 obtain⟨a,c,rfl,h1,h2⟩:=h;exact⟨a,c,rfl,h1.below hb,h2⟩
def OwnI.sliceIs {base:Nat}(h:OwnI w base v zs)(hl:zs.length<=9223372036854775807):SliceIs w v zs:=by
 obtain⟨a,c,rfl,h1⟩:=h.sliceOf hl;refine⟨a,c,rfl,h1,λe=>?_⟩;subst e;rcases h.2 with ⟨H,h0⟩|⟨g,cap,I,H,_⟩
 . simp only[ZL]at H;exact H.2.2
 . simp only[ZL]at H;cases H.1
abbrev X7:=@Below.refl
def Ag (w:Wd)(o:Obj):Bw w (w.alloc o):=(X7 _ _).alloc (Xs _) _
def An (w:Wd)(n:Nat):Bw w (w.drewN n):=CB (X7 _ _) _
def Gc (w:Wd)(n:Nat)(o:Obj):Bw w ((w.alloc o).drewN n):=CB (Ag w o) _
def Aj.drewN {w:Wd}{a:Option Addr}{zs:List Int}(h:Aj w a zs)(n:Nat):Aj (w.drewN n) a zs:=⟨h.len,h.cells⟩
def KB (w:Wd):SliceIs w (.slice none 0 0) []:=⟨none,0,rfl,⟨by simp,by simp⟩,λ_=>rfl⟩
abbrev Xx:=@if_pos
abbrev Xu:=@if_neg
def sliceIs_of_row {a:Option Addr}{len cap:Nat}
 (h:(a=none/\len=0/\cap=0/\zs=[])\/∃x,a=some x/\len<=cap/\cap<=maxLen/\zs.length=cap/\(∀i,i<zs.length->w.cell? (x.add i)=some (Iv (zs.getD i 0)))/\∀n∈zs,(Lit.int .i64 n).wf=true):
 SliceIs w (.slice a len cap) (zs.take len):=by
 rcases h with ⟨rfl,rfl,rfl,rfl⟩|⟨x,rfl,hl,I,O,H,_⟩
 . exact KB w
 ·have g0:(zs.take len).length=len:=by simp;omega
  refine⟨some x,cap,by rw[g0],⟨by rw[g0];unfold maxLen at I;omega,λk hk=>?_⟩,by simp⟩;rw[g0]at hk;have h1:=H k (by omega);obtain⟨b,off,spot⟩:=x;have g1:∀k,(⟨b,off,spot⟩:Addr).add k=if k=0 then⟨b,off,spot⟩else(Aw b (off+k)):=λk=>rfl
  have g2:spot=none:=by
   have h0:=H 0 (by omega);rw[g1,Xx rfl]at h0;cases spot with
   | none=>rfl
   | some s=>
     unfold World.cell? at h0;split at h0<;>simp at h0
  subst g2;refine⟨b,off,rfl,?_⟩;have e:at0 (zs.take len) k=zs.getD k 0:=by simp[at0,List.getD,hk]
  rw[e,<-h1,g1]
  by_cases h0:k=0
  . subst h0;rfl
  . rw[Xu h0]
def Cy (zs:List Int)(x:Int):Int:=match zs.idxOf? x with|some k=>k|none=>-1
def Pp {x:Int}(h:k<zs.length)(hx:at0 zs k=x)(I:∀j,j<k->at0 zs j≠x):Cy zs x=k:=by
 have:zs.idxOf? x=some k:=by
  rw[List.idxOf?_eq_some_iff];refine⟨h,by rw[A8 h]at hx;exact hx,?_⟩;intro j H;have:=I j H;rw[A8 (Nat.lt_trans H h)]at this;exact this
 simp[Cy,this]
abbrev Zi:=@List.mem_iff_getElem
def Pq {x:Int}(I:∀j,j<zs.length->at0 zs j≠x):Cy zs x= -1:=by
 have:zs.idxOf? x=none:=by
  rw[List.idxOf?_eq_none_iff];intro hx;obtain⟨j,H,rfl⟩:=Zi.1 hx;exact I j H (A8 H)
 simp[Cy,this]
def Cg (zs:List Int):Bool:=decide ((∀k,k<zs.length->0<=at0 zs k/\at0 zs k<zs.length)/\∀i,i<zs.length->∀k,k<i->at0 zs k≠at0 zs i)
def KC (zs:List Int):Cg zs=true↔(∀k,k<zs.length->0<=at0 zs k/\at0 zs k<zs.length)/\∀i,i<zs.length->∀k,k<i->at0 zs k≠at0 zs i:=by simp[Cg]
def KD (h:¬ ((∀k,k<zs.length->0<=at0 zs k/\at0 zs k<zs.length)/\∀i,i<zs.length->∀k,k<i->at0 zs k≠at0 zs i)):Cg zs=false:=by
 rw[Bool.eq_false_iff];intro H;exact h ((KC zs).1 H)
def D8 (zs:List Int)(i:Int):List Int:=
 if 0<=i/\i+1<zs.length then(zs.set i.toNat (at0 zs (i.toNat+1))).set (i.toNat+1) (at0 zs i.toNat)else zs
def Pr (zs:List Int)(i:Int):(D8 zs i).length=zs.length:=by unfold D8;split<;>simp
def Ps (h:k+1<zs.length):D8 zs (k:Int)=(zs.set k (at0 zs (k+1))).set (k+1) (at0 zs k):=by
 unfold D8;rw[Xx (by omega)];simp
def iota (n:Nat):List Int:=(List.range n).map Int.ofNat
def Gd (n:Nat):(iota n).length=n:=by simp[iota]
abbrev Zn:=@List.range_succ
def Pu (n:Nat):iota (n+1)=iota n++[(n:Int)]:=by simp[iota,Zn]
def Fm (n:Int):List Int:=iota (min n.toNat 64)
def Pv (zs:List Int)(x:Int): -1<=Cy zs x:=by unfold Cy;split<;>omega
def Pw (zs:List Int)(x:Int):Cy zs x<max 1 zs.length:=by
 unfold Cy;split
 ·rename_i k hk
  rw[List.idxOf?_eq_some_iff]at hk;obtain⟨h,_⟩:=hk;omega
 . omega
def bub (zs:List Int)(i:Nat):Nat->List Int×List Int
 | 0=>(zs,[])
 | d+1=>((bub (D8 zs ((i+d:Nat):Int)) i d).1,((i+d:Nat):Int)::(bub (D8 zs ((i+d:Nat):Int)) i d).2)
def Fo (zs:List Int)(x:Int)(i:Nat):List Int×List Int:=bub zs i (Cy zs x-i).toNat
def Ds:List Int->List Int->Nat->List Int
 | _,[],_=>[]
 | now,b::bs,i=>(Fo now b i).2++Ds (Fo now b i).1 bs (i+1)
abbrev Yc:=@List.drop_eq_getElem_cons
def Px (h:k<zs.length):zs.drop k=at0 zs k::zs.drop (k+1):=by
 rw[Yc h,A8 h]
def Py (H bs:List Int)(k:Nat)(h:k<bs.length):Ds H (bs.drop k) k=(Fo H (at0 bs k) k).2++Ds (Fo H (at0 bs k) k).1 (bs.drop (k+1)) (k+1):=by
 rw[Px h];rfl
def CK (a b:List Int):List Int:=if Cg a=true/\Cg b=true/\a.length=b.length then Ds a b 0 else []
def CL (a b:List Int):Int:=if Cg a=true/\Cg b=true then(if a.length=b.length then 0 else 3)else 1
inductive Role where
 | man|store|levels|vars|level|pool|slots|taken|free|tabs|tab (v:Nat)|tmap (v:Nat)|counts|memo|entries|handles|waits
 deriving DecidableEq
variable {R:Role->Prop}
abbrev Own:=Nat->Option Role
variable {o' o'' o1 o2:Own}
def Ac (o:Own)(w:Wd):Prop:=∀k r,o k=some r->k<w.heap.size
structure Chg (R:Role->Prop)(o o':Own)(w w':Wd):Prop where
 os:w'.os=w.os
 tape:w'.tape=w.tape
 output:w'.output=w.output
 size:w.heap.size<=w'.heap.size
 block:∀k,k<w.heap.size->(∀r,o k=some r->¬ R r)->w'.heap[k]?=w.heap[k]?
 ext:∀k r,o k=some r->o' k=some r
 new:∀k,o' k≠o k->w.heap.size<=k/\∃r,o' k=some r/\R r
section
variable {R':Role->Prop}{o:Own}{r:Role}
def Chg.refl (R:Role->Prop)(o:Own)(w:Wd):Chg R o o w w:=⟨rfl,rfl,rfl,Xs _,λ_ _ _=>rfl,λ_ _ h=>h,λ_ h=>(h rfl).elim⟩
abbrev Xz:=@Nat.le_trans
abbrev X5:=@Nat.lt_of_lt_of_le
def Chg.trans (h:Chg R o o' w w')(H:Chg R o' o'' w' w''):Chg R o o'' w w'':=by
 refine⟨H.os.trans h.os,H.tape.trans h.tape,H.output.trans h.output,Xz h.size H.size,λk hk I=>?_,λk r I=>H.ext k r (h.ext k r I),λk hk=>?_⟩
 ·have g0:k<w'.heap.size:=X5 hk h.size;refine(H.block k g0 λq O=>?_).trans (h.block k hk I)
  by_cases e:o' k=o k
  . rw[e]at O;exact I q O
  . have:=(h.new k e).1;omega
 ·by_cases e:o'' k=o' k
  . rw[e]at hk⊢;exact h.new k hk
  . have:=H.new k e;exact⟨Xz h.size this.1,this.2⟩
def Chg.mono (h:Chg R o o' w w')(I:∀r,R r->R' r):Chg R' o o' w w':=
 ⟨h.os,h.tape,h.output,h.size,λk hk O=>h.block k hk λr H hh=>O r H (I r hh),h.ext,λk hk=>⟨(h.new k hk).1,(h.new k hk).2.imp λr hh=>⟨hh.1,I r hh.2⟩⟩⟩
def Chg.drewN (h:Chg R o o' w w')(n:Nat):Chg R o o' w (w'.drewN n):=⟨h.os,h.tape,h.output,h.size,h.block,h.ext,h.new⟩
def Chg.alloc (h:Chg R o o' w w')(ob:Obj):Chg R o o' w (w'.alloc ob):=
 ⟨h.os,h.tape,h.output,by simp;have:=h.size;omega,λk hk H=>(X1 w' ob (X5 hk h.size)).trans (h.block k hk H),h.ext,h.new⟩
abbrev ZV:=@Below.heap_setCell
def Chg.setCell (h:Chg R o o' w w'){p:Addr}{r:Role}(H:o' p.block=some r)(I:R r)(u:Value):Chg R o o' w (w'.setCell p u):=by
 refine⟨h.os,h.tape,h.output,by simp[World.setCell];exact h.size,λk hk g0=>?_,h.ext,h.new⟩;have g1:k≠p.block:=by
  rintro rfl
  by_cases e:o' p.block=o p.block
  . rw[e]at H;exact g0 r H I
  . have:=(h.new _ e).1;omega
 rw[ZV _ _ _ _ g1];exact h.block k hk g0
def Chg.setCell_new (h:Chg R o o' w w'){p:Addr}(H:w.heap.size<=p.block)(u:Value):Chg R o o' w (w'.setCell p u):=by
 refine⟨h.os,h.tape,h.output,by simp[World.setCell];exact h.size,λk hk g0=>?_,h.ext,h.new⟩;rw[ZV _ _ _ _ (by omega)];exact h.block k hk g0
def Chg.of_below (hb:Bw w w')(R:Role->Prop)(o:Own):Chg R o o w w':=
 ⟨hb.os,hb.tape,hb.output,hb.size,λk hk _=>hb.block k hk,λ_ _ h=>h,λ_ h=>(h rfl).elim⟩
def AL (o:Own)(b:Nat)(r:Role):Own:=λk=>if k=b then some r else o k
def B4 (o:Own)(b:Nat)(r:Role):AL o b r b=some r:=by simp[AL]
def CX {q:Role}(H:Ac o w)(hb:w.heap.size<=b)(h:o k=some q):AL o b r k=some q:=by
 have:=H k q h;simp only[AL,Xu (show k≠b by omega)];exact h
def Chg.allocR (h:Chg R o o' w w')(H:Ac o' w')(ob:Obj)(I:R r):Chg R o (AL o' w'.heap.size r) w (w'.alloc ob):=by
 have h2:=h.alloc ob;refine⟨h2.os,h2.tape,h2.output,h2.size,h2.block,λk q O=>CX H (Xs _) (h.ext k q O),λk hk=>?_⟩
 by_cases e:k=w'.heap.size
 . subst e;exact⟨h.size,r,B4 _ _ _,I⟩
 . simp only[AL,Xu e]at hk⊢;exact h.new k hk
abbrev X3:=@World.size_alloc
def Ac.allocR (h:Ac o w)(ob:Obj)(r:Role):Ac (AL o w.heap.size r) (w.alloc ob):=by
 intro k q H;simp only[X3]
 by_cases e:k=w.heap.size
 . omega
 . simp only[AL,Xu e]at H;have:=h k q H;omega
def Ac.mono (h:Ac o w)(hs:w.heap.size<=w'.heap.size):Ac o w':=λk r H=>X5 (h k r H) hs
def Chg.grown (h:Chg R o o' w w'){row:Option Nat}(I:w'.grownBy w'' row)(H:∀g,row=some g->∃r,o' g=some r/\R r):Chg R o o' w w'':=by
 refine h.trans ⟨I.os,I.tape,I.output,I.size,λk hk O=>I.block k hk λe=>?_,λ_ _ h=>h,λ_ h=>(h rfl).elim⟩;obtain⟨r,h1,h2⟩:=H k e.symm;exact O r h1 h2
def Chg.same (h:Chg R o o' w w')(H:Ac o w){r:Role}(hb:o b=some r)(O:¬ R r):w'.heap[b]?=w.heap[b]?:=
 h.block b (H b r hb) λq I=>by rw[hb]at I;cases I;exact O
def Chg.alien (h:Chg R o o' w w')(H:b<w.heap.size)(hb:o b=none):w'.heap[b]?=w.heap[b]?:=
 h.block b H λq I=>by rw[hb]at I;cases I
def Chg.alien' (h:Chg R o o' w w')(H:b<w.heap.size)(hb:o b=none):o' b=none:=by
 by_cases e:o' b=o b
 . rw[e];exact hb
 . have:=(h.new b e).1;omega
def Chg.cell (h:Chg R o o' w w'){p:Addr}{v:Value}(H:w.cell? p=some v)(hb:o p.block=none):w'.cell? p=some v:=
 (XR (w:=w) (h.alien (Z5 w p H) hb)).trans H
structure RowR (o:Own)(w:Wd)(r:Role)(e:TypeId)(size:Nat)(v:Value)(n:Nat)(xs:List Value):Prop where
 len:xs.length=n*size
 ex:(v=.slice none 0 0/\n=0)\/∃g cap cur,v=.slice (some (Av g)) n cap/\o g=some r/\w.heap[g]?=some (.cells cur e (0,0))/\n<=cap/\cap<=maxLen/\cap*size<=cur.size/\cur.toList.take (n*size)=xs
variable {e:TypeId}{size:Nat}
def RowR.nil (o:Own)(w:Wd)(r:Role)(e:TypeId)(size:Nat):RowR o w r e size (.slice none 0 0) 0 []:=⟨by simp,.inl ⟨rfl,rfl⟩⟩
theorem RowR.keep (h:RowR o w r e size v n xs)(hk:∀g,o g=some r->w'.heap[g]?=w.heap[g]?)(H:∀g,o g=some r->o' g=some r):RowR o' w' r e size v n xs:=by
 refine⟨h.len,h.ex.imp id ?_⟩;rintro⟨g,cap,cur,h1,h2,h3,rest⟩;exact⟨g,cap,cur,h1,H g h2,(hk g h2).trans h3,rest⟩
def RowR.chg (h:RowR o w r e size v n xs)(O:Chg R o o' w w')(H:Ac o w)(U:¬ R r):RowR o' w' r e size v n xs:=
 h.keep (λg I=>O.same H I U) (λg I=>O.ext g r I)
def RowR.shape (h:RowR o w r e size v n xs)(O:0<n):∃g cap,v=.slice (some (Av g)) n cap/\o g=some r/\n<=cap/\cap<=maxLen:=by
 rcases h.ex with ⟨_,h0⟩|⟨g,cap,I,h1,h2,_,h3,H,_⟩
 . omega
 . exact⟨g,cap,h1,h2,h3,H⟩
def RowR.slice (h:RowR o w r e size v n xs):∃a cap,v=.slice a n cap/\n<=cap/\cap<=maxLen/\(a=none->cap=0)/\(∀x,a=some x->∃g,x=(Av g)/\o g=some r):=by
 rcases h.ex with ⟨h1,h0⟩|⟨g,cap,I,h1,h2,_,h3,H,_⟩
 . exact⟨none,0,by rw[h1,h0],by omega,by omega,λ_=>rfl,by simp⟩
 . exact⟨_,cap,h1,h3,H,by simp,λx hx=>⟨g,by cases hx;rfl,h2⟩⟩
abbrev Xw:=@cell_of_row
abbrev Zt:=@List.getElem?_take
def RowR.cell {g cap m:Nat}(h:RowR o w r e size (.slice (some (Av g)) m cap) n xs)(k:Nat)(hk:k<xs.length):w.cell? (Aw g k)=xs[k]?:=by
 rcases h.ex with ⟨h1,_⟩|⟨g',cap',H,h1,_,h3,_,_,O,I⟩
 . cases h1
 ·cases h1;rw[Xw w g k H e (0,0) h3];have:xs[k]?=(H.toList.take (n*size))[k]?:=by rw[I]
  rw[this,Zt,Xx (by rw[<-h.len];exact hk)];simp
def RowR.frozen {g cap m:Nat}(h:RowR o w r e size (.slice (some (Av g)) m cap) n xs)(k:Nat):w.frozen? (Aw g k)=false:=by
 rcases h.ex with ⟨h1,_⟩|⟨g',cap',H,h1,_,h3,_⟩
 . cases h1
 . cases h1;simp[World.frozen?,h3]
def RowR.owner {cap m:Nat}(h:RowR o w r e size (.slice (some (Av g)) m cap) n xs):o g=some r:=by
 rcases h.ex with ⟨h1,_⟩|⟨g',cap',H,h1,h2,_⟩
 . cases h1
 . cases h1;exact h2
abbrev Zv:=@Array.getElem?_modify
abbrev Y1:=@if_true
def RowR.stored {cap m:Nat}(h:RowR o w r e size (.slice (some (Av g)) m cap) n xs)(k:Nat)(u:Value):
 RowR o (w.setCell (Aw g k) u) r e size (.slice (some (Av g)) m cap) n (xs.set k u):=by
 refine⟨by rw[XE];exact h.len,?_⟩;rcases h.ex with ⟨h1,_⟩|⟨g',cap',H,h1,h2,h3,X,U,O,I⟩
 . cases h1
 ·cases h1;refine .inr ⟨g,cap,H.setIfInBounds k u,rfl,h2,?_,X,U,by simpa using O,?_⟩
  . simp only[World.setCell,Zv,Y1,h3];rfl
  . rw[Array.toList_setIfInBounds,List.take_set,I]
def RowR.setCell_other (h:RowR o w r e size v n xs){p:Addr}(H:o p.block≠some r)(u:Value):RowR o (w.setCell p u) r e size v n xs:=
 h.keep (λg I=>ZV _ _ _ _ (by rintro rfl;exact H I)) (λ_ h=>h)
abbrev XS:=@Nat.mul_le_mul_right
abbrev YB:=@List.length_take
def RowR.shrink {cap m m' cap':Nat}(h:RowR o w r e size (.slice (some (Av g)) m cap) n xs)(O:m'<=n)(U:cap'<=cap)(H:m'<=cap'):
 RowR o w r e size (.slice (some (Av g)) m' cap') m' (xs.take (m'*size)):=by
 have g0:m'*size<=n*size:=XS _ O;refine⟨by rw[YB,h.len];omega,?_⟩;rcases h.ex with ⟨h1,_⟩|⟨g',cap0,I,h1,h2,h3,a,Z,Y,X⟩
 . cases h1
 . cases h1;refine .inr ⟨g,cap',I,rfl,h2,h3,H,by omega,Xz (XS _ U) Y,?_⟩;rw[<-X,List.take_take];congr 1;omega
abbrev X4:=@List.length_append
abbrev Y8:=@Nat.add_mul
abbrev Xv:=@heap_alloc_new
abbrev Y6:=@List.size_toArray
abbrev XF:=@List.append_assoc
abbrev XZ:=@run_underlying
abbrev Yv:=@List.nil_append
abbrev aS:=@List.length_drop
def RowR.append (h:RowR o w r e size v n xs)(U:Ac o w)(t d:TypeId)(i:TypeInfo)(z:Value)(bytes:Nat)(f:P.underlying t=some (.slice e))(hi:P.info? e=some i)(x:i.zero=some z)
 (X:i.size=size) (p:i.bytes=bytes) (l:z.cells.size=size) (A:0<size)
 (a:Addr) (m c:Nat) (news:List Value) (hl:news.length=m*size) (I:∀j u,news[j]?=some u->w.cell? (a.add j)=some u) (h1:∀u∈news,u.oneCell'=true)
 (b:n+m<=maxLen) (O:(n+m)*bytes<=140737488355328):
 ∃v' w' o',(Builtin.append_ #[t,t] d #[v,.slice (some a) m c]).run P w=.ok v' w'/\RowR o' w' r e size v' (n+m) (xs++news)/\Chg (· = r) o o' w w'/\Ac o' w':=by
 subst X;subst p;have g9:n+m<=9223372036854775807:=by simp only[maxLen]at b;omega
 have g1:(xs++news).length=(n+m)*i.size:=by rw[X4,h.len,hl,Y8]
 have grown:∀(H:Nat),
  RowR (AL o w.heap.size r) (w.drew.alloc (.cells (xs.toArray++news.toArray++Builtin.zeroCells z.cells (grownCap w (n+m) H e-(n+m))) e)) r e i.size
   (.slice (some (Av w.heap.size)) (n+m) (grownCap w (n+m) H e)) (n+m) (xs++news) /\
  Chg (· = r) o (AL o w.heap.size r) w (w.drew.alloc (.cells (xs.toArray++news.toArray++Builtin.zeroCells z.cells (grownCap w (n+m) H e-(n+m))) e)) /\
  Ac (AL o w.heap.size r) (w.drew.alloc (.cells (xs.toArray++news.toArray++Builtin.zeroCells z.cells (grownCap w (n+m) H e-(n+m))) e)):=by
  intro H;have G:=grownCap_ge w (n+m) H e;have g3:grownCap w (n+m) H e<=maxLen:=grownCap_le_maxLen w (n+m) H e b;refine⟨⟨g1,.inr ⟨w.heap.size,_,_,rfl,B4 _ _ _,Xv w.drew _,G,g3,?_,?_⟩⟩,(((Chg.refl (· = r) o w).drewN 1).allocR (w':=w.drewN 1) U _ rfl),Ac.allocR (w:=w.drewN 1) U _ r⟩
  . simp only[Array.size_append,Y6,size_zeroCells,l,h.len,hl,<-Y8];exact XS _ (by omega)
  . simp only[Array.toList_append,XF];rw[<-XF,<-g1];exact List.take_left
 rcases h.ex with ⟨rfl,rfl⟩|⟨g,cap,Y,rfl,g6,y,gc,g3,F,g4⟩
 ·have hx:xs=[]:=YC (by simpa using h.len);subst hx
  by_cases D:m=0
  . subst D;have C:news=[]:=YC (by simpa using hl);subst C;refine⟨.slice none 0 0,w,o,?_,RowR.nil o w r e i.size,Chg.refl _ _ _,U⟩;simp[Builtin.append_,XZ f,sizeOf,typeInfo,hi,Builtin.lenOf,Builtin.firstCells,loadCells,loadCellsFrom]
  . have Z:=run_append_nil (P:=P) w t d e i z f hi x a m c news hl I (by omega) (by omega) (by have hb:=O;simp only[XO]at hb;omega);have g2:=grown 0;simp only[XO,Yv,Array.empty_append]at g2⊢;exact⟨_,_,_,Z,g2⟩
 ·by_cases g0:n+m<=cap
  ·have g7:n*i.size+news.length<=Y.size:=by rw[hl,<-Y8];exact Xz (XS _ g0) F
   have Z:=run_append_room (P:=P) w t d e i f hi g n cap Y y a m c news hl I h1 g0 g7;refine⟨_,_,o,Z,⟨g1,.inr ⟨g,cap,_,rfl,g6,setRow_heap w g Y _ e _ y,g0,g3,?_,?_⟩⟩,⟨rfl,rfl,rfl,by simp,λk _ hk=>setRow_other w g k _ (by rintro rfl;exact hk r g6 rfl),λ_ _ h=>h,λ_ h=>(h rfl).elim⟩,λk q B=>by have:=U k q B;simpa using this⟩
   . simp only[Y6,X4,YB,aS,Array.length_toList];omega
   . rw[g4,<-g1];exact List.take_left
  ·have g5:∀j u,xs[j]?=some u->w.cell? (((Av g):Addr).add j)=some u:=by
    intro j u hu;have g8:((Av g):Addr).add j=(Aw g j):=by unfold Addr.add;split<;>simp_all
    have E:j<xs.length:=by
     rcases X9 j xs.length with s|s
     . exact s
     . rw[XC s]at hu;cases hu
    rw[g8,h.cell j E];exact hu
   have Z:=run_append_grow (P:=P) w t d e i z f hi x (Av g) n cap xs h.len g5 a m c news hl I (by omega) (by omega) (growslice_fits (by omega) O);have g2:=grown cap;exact⟨_,_,_,Z,g2⟩
end
abbrev YY:=@List.flatMap_cons
abbrev XL:=@List.length_cons
def Ch {α:Type}(f:α->List Value)(s:Nat)(H:∀x,(f x).length=s):∀(l:List α),(l.flatMap f).length=l.length*s
 | []=>by simp
 | x::l=>by rw[YY,X4,H,Ch f s H l,XL,Y8];omega
abbrev XN:=@List.getElem?_append_left
abbrev Ya:=@List.getElem?_append_right
def Ef {α:Type}(f:α->List Value)(s:Nat)(H:∀x,(f x).length=s):∀(l:List α) (k j:Nat) (x:α),l[k]?=some x->j<s->(l.flatMap f)[k*s+j]?=(f x)[j]?
 | [],k,j,x,h,_=>by simp at h
 | y::l,0,j,x,h,hj=>by
   simp at h;subst h
   rw[YY,XN (by rw[H];omega)];congr 1;omega
 | y::l,k+1,j,x,h,hj=>by
   simp at h;rw[YY,Ya (by rw[H,Y8];omega),H,<-Ef f s H l k j x h hj];congr 1;rw[Y8];omega
abbrev Ym:=@List.ext_getElem
abbrev Yp:=@List.length_replicate
def Pz {o:Oper}(I:o.guard=none)(l c:Operand)
 (X:o.op=.makeSlice 22 l c) (base:Nat) (w0:Wd) (L:Int) (n:Nat) (hl:a.eval l=Iv L) (Y:a.eval c=Iv L) (O:L=n) (Z:n<1099511627776)
 (H:base<=wr.heap.size) (hb:Below base w0 wr)
 (h:∀g w',OwnI w' base (.slice (some (Av g)) n n) (List.replicate n 0)->Below base w0 w'->base<=w'.heap.size->CW none wr w'->base<=g ->
  wpList prog ops Q rest (a.put o.dst (.slice (some (Av g)) n n)) w'):
 wpList prog ops Q (o::rest) a wr:=by
 obtain⟨i,hi,U,g0,g1⟩:=Zm E8;refine wpList_make_full wr I l c 22 X base 3 i (Iv 0) 1 underlying22 hi U g0 .i64 .i64 L L n hl Y O O (by rw[g1];omega) (by unfold maxLen;omega) H ?_;intro w' h1 h2;refine h wr.heap.size w' ?_ (hb.grown h2 H (by simp)) (by have:=h2.size;omega) (Fl h2) H;unfold OwnI;have e1:Ar (List.replicate n 0)=(madeCells (Value.int .i64 0).cells (n*1)).toList:=by
  simp[Ar,madeCells,Value.cells];apply Ym
  . simp
  . intro j h3 b;simp[Nat.mod_one]
 rw[Yp,e1];exact h1
abbrev ZJ:=@List.set_append_right
def P0 (k n:Nat)(h:k<n):(iota k++List.replicate (n-k) 0).set k (k:Int)=iota (k+1)++List.replicate (n-(k+1)) 0:=by
 have e:n-k=(n-(k+1))+1:=by omega
 rw[e,List.replicate_succ,ZJ _ _ (by simp[Gd]),Gd,Nat.sub_self,List.set_cons_zero,Pu,XF];rfl
def P1 (n:Int)(w:Wd):
 Cl 126 #[Iv n] w λe w'=>∃v,e=.returned v/\OwnI w' w.heap.size v (Fm n)/\Bw w w':=by
 obtain⟨L,H⟩:=Ex (min n.toNat 64:Nat);have g6:L<=64:=by omega
 have O:Hq (Fm n=iota L):=by unfold Fm;rw[H];rfl
 have I:=Hd H;clear H
 go_enter func126,ntmps126
 go_wp2_with (at_make;refine Pz rfl _ _ rfl w.heap.size w _ L rfl rfl (by have:=I.o;omega) (by omega) (Xs _) (X7 _ _) ?_;intro g w1 g2 g5 hs1 g7 g4)
 all_goals
  go_loopw [11] (λi wr=>∃k:Nat,k<=L/\i=Iv k/\OwnI wr w.heap.size (.slice (some (Av g)) L L) (iota k++List.replicate (L-k) 0)/\Bw w wr) (λi _=>L-(intOf i).toNat)
  case atStart=>exact⟨0,by omega,rfl,by simpa [iota]using g2,g5⟩
  case round=>
   obtain⟨k,hk,rfl,g0,g1⟩:=hrel
   by_cases g3:k<L
   ·have U:=g0.cell k (by simp[Gd];omega);have X:=g0.frozen k
    go_wp2
    go_roundw
    case rel=>exact⟨k+1,by omega,by go_num,by rw[<-P0 k L g3];exact g0.stored k _,g1.setCell g4 _⟩
    case measure=>simp[intOf];omega
   ·obtain rfl:k=L:=by omega
    go_wp2
    go_ret;exact⟨_,rfl,by rw[O.o];simpa using g0,g1⟩
abbrev BF:=(Nat->Bool)->Bool
variable {V:Nat->BF}
structure BN where
 v:Nat
 lo:Nat
 hi:Nat
variable {N:Nat->Option BN}
def ef (V:Nat->BF)(e:Nat):BF:=fun ρ=>(e%2 == 1) != V (e/2) ρ
def iteF (v:Nat)(h l:BF):BF:=fun ρ=>if ρ v then h ρ else l ρ
def okE (nodes:Nat->Option BN)(e:Nat):Prop:=e/2=0\/∃b,nodes (e/2)=some b
def lvE (n:Nat)(lev:Nat->Nat)(nodes:Nat->Option BN)(e:Nat):Nat:=
 match nodes (e/2)with
 | some b=>lev b.v
 | none=>n
structure Dag (n:Nat)(lev:Nat->Nat)(nodes:Nat->Option BN)(V:Nat->BF):Prop where
 one:∀ρ,V 0 ρ=true
 none0:nodes 0=none
 var:∀id b,nodes id=some b->b.v<n
 inj:∀u v,u<n->v<n->lev u=lev v->u=v
 lt:∀v,v<n->lev v<n
 okLo:∀id b,nodes id=some b->okE nodes b.lo
 okHi:∀id b,nodes id=some b->okE nodes b.hi
 lvLo:∀id b,nodes id=some b->lev b.v<lvE n lev nodes b.lo
 lvHi:∀id b,nodes id=some b->lev b.v<lvE n lev nodes b.hi
 reg:∀id b,nodes id=some b->b.hi%2=0
 ne:∀id b,nodes id=some b->b.lo≠b.hi
 uniq:∀id id' b,nodes id=some b->nodes id'=some b->id=id'
 eqn:∀id b,nodes id=some b->V id=iteF b.v (ef V b.hi) (ef V b.lo)
section
variable {lev:Nat->Nat}{nodes:Nat->Option BN}
abbrev Y4:=@Nat.mod_two_eq_zero_or_one
def P2 (V:Nat->BF)(e:Nat)(ρ:Nat->Bool):ef V (e ^^^ 1) ρ = !ef V e ρ:=by
 have h1:(e ^^^ 1)/2=e/2:=by
  have:=Nat.shiftRight_xor_distrib (a:=e) (b:=1) (i:=1);simpa [Nat.shiftRight_eq_div_pow]using this
 have h2:(e ^^^ 1)%2=1-e%2:=by
  have:=Nat.xor_mod_two_pow (a:=e) (b:=1) (n:=1);simp at this;rw[this];rcases Y4 e with h|h<;>rw[h]<;>rfl
 unfold ef;rw[h1,h2];rcases Y4 e with h|h<;>rw[h]<;>simp
abbrev aD:=@Nat.le_of_lt
def Dag.lvE_le (h:Dag n lev nodes V)(e:Nat):lvE n lev nodes e<=n:=by
 unfold lvE;split
 . rename_i b hb;exact aD (h.lt _ (h.var _ _ hb))
 . exact Xs _
def Dag.indep (h:Dag n lev nodes V):∀(k e:Nat),n-lvE n lev nodes e<=k->okE nodes e->∀ρ ρ':Nat->Bool,(∀v,v<n->lvE n lev nodes e<=lev v->ρ v=ρ' v)->ef V e ρ=ef V e ρ':=by
 intro k
 induction k with
 | zero=>
   intro e hk H ρ ρ' _;have h0:e/2=0:=by
    rcases H with H|⟨b,hb⟩
    . exact H
    . exfalso;have h1:=h.lt _ (h.var _ _ hb);simp only[lvE,hb]at hk;omega
   simp only[ef,h0,h.one]
 | succ k O=>
   intro e hk H ρ ρ' g0;rcases H with H|⟨b,hb⟩
   . simp only[ef,H,h.one]
   ·have hl:lvE n lev nodes e=lev b.v:=by simp only[lvE,hb]
    rw[hl]at hk g0;have U:=h.var _ _ hb;have e1:ρ b.v=ρ' b.v:=g0 _ U (Xs _);have e2:ef V b.hi ρ=ef V b.hi ρ':=O b.hi (by have:=h.lvHi _ _ hb;omega) (h.okHi _ _ hb) ρ ρ' (λv g1 I=>g0 v g1 (by have:=h.lvHi _ _ hb;omega));have X:ef V b.lo ρ=ef V b.lo ρ':=O b.lo (by have:=h.lvLo _ _ hb;omega) (h.okLo _ _ hb) ρ ρ' (λv g1 I=>g0 v g1 (by have:=h.lvLo _ _ hb;omega));have:V (e/2) ρ=V (e/2) ρ':=by rw[h.eqn _ _ hb];simp only[iteF,e1,e2,X]
    simp only[ef,this]
theorem Dag.top (h:Dag n lev nodes V):∀(k id:Nat),n-lvE n lev nodes (2*id)<=k->(id=0\/∃b,nodes id=some b)->V id (λ_=>true)=true:=by
 intro k
 induction k with
 | zero=>
   intro id hk H;rcases H with rfl|⟨b,hb⟩
   . exact h.one _
   ·exfalso;have h1:=h.lt _ (h.var _ _ hb);have:2*id/2=id:=by omega
    simp only[lvE,this,hb]at hk;omega
 | succ k I=>
   intro id hk H;rcases H with rfl|⟨b,hb⟩
   . exact h.one _
   ·have h2:2*id/2=id:=by omega
    have O:=h.reg _ _ hb;have U:2*(b.hi/2)=b.hi:=by omega
    simp only[lvE,h2,hb]at hk;have hl:=h.lvHi _ _ hb;have:=I (b.hi/2) (by rw[U];omega) (h.okHi _ _ hb);rw[h.eqn _ _ hb];simp only[iteF,Y1,ef,O,this];rfl
def upd (ρ:Nat->Bool)(v:Nat)(x:Bool):Nat->Bool:=λu=>if u=v then x else ρ u
def CY (ρ:Nat->Bool)(v:Nat)(x:Bool):upd ρ v x v=x:=by simp[upd]
def Ge (ρ:Nat->Bool){v u:Nat}(x:Bool)(h:u≠v):upd ρ v x u=ρ u:=by simp[upd,h]
def Dag.indep_var (h:Dag n lev nodes V){v:Nat}(H:okE nodes e)(hl:lev v<lvE n lev nodes e)(ρ:Nat->Bool)(x:Bool):ef V e (upd ρ v x)=ef V e ρ :=
 h.indep _ e (Xs _) H _ _ λu _ I=>Ge ρ x (by rintro rfl;omega)
theorem Dag.cofs (h:Dag n lev nodes V){b:BN}(hb:nodes id=some b)(ρ:Nat->Bool):V id (upd ρ b.v true)=ef V b.hi ρ/\V id (upd ρ b.v false)=ef V b.lo ρ:=by
 rw[h.eqn _ _ hb];simp only[iteF,CY,Y1,h.indep_var (h.okHi _ _ hb) (h.lvHi _ _ hb),h.indep_var (h.okLo _ _ hb) (h.lvLo _ _ hb)];simp
theorem D9 {b:BN}(h:nodes id=some b):okE nodes (2*id):=.inr ⟨b,by rw[show 2*id/2=id from by omega];exact h⟩
abbrev Zx:=@Nat.lt_trichotomy
theorem Dag.canonK (h:Dag n lev nodes V):∀(k e H:Nat),n-lvE n lev nodes e<=k->n-lvE n lev nodes H<=k->okE nodes e->okE nodes H->ef V e=ef V H->e=H:=by
 intro k
 induction k with
 | zero=>
   intro e H hk g1 I g2 g3;have z:∀e,n-lvE n lev nodes e<=0->okE nodes e->e/2=0:=by
    intro e hk I;rcases I with I|⟨b,hb⟩
    . exact I
    . exfalso;have h1:=h.lt _ (h.var _ _ hb);simp only[lvE,hb]at hk;omega
   have h1:=z e hk I;have h2:=z H g1 g2;have:=congrFun g3 (λ_=>true);simp only[ef,h1,h2,h.one]at this;have X:e%2=H%2:=by
    rcases Y4 e with a|a<;>rcases Y4 H with b|b<;>rw[a,b]at this<;>first|omega|simp at this
   omega
 | succ k U=>
   intro e H hk g1 I g2 g3;have t:∀e,okE nodes e->V (e/2) (λ_=>true)=true:=λe I=>h.top _ _ (Xs _) I
   have X:e%2=H%2:=by
    have:=congrFun g3 (λ_=>true);simp only[ef,t e I,t H g2]at this;rcases Y4 e with a|a<;>rcases Y4 H with b|b<;>rw[a,b]at this<;>first|omega|simp at this
   have hV:V (e/2)=V (H/2):=by
    funext ρ;have:=congrFun g3 ρ;simp only[ef,X]at this;revert this;cases V (e/2) ρ<;>cases V (H/2) ρ<;>cases(H%2 == 1)<;>simp
   have nohang:∀(id:Nat) (b:BN),nodes id=some b->n-lev b.v<=k+1->¬ (∀ρ x,V id (upd ρ b.v x)=V id ρ):=by
    intro id b hb gc g5;refine h.ne _ _ hb (U b.lo b.hi (by have:=h.lvLo _ _ hb;omega) (by have:=h.lvHi _ _ hb;omega) (h.okLo _ _ hb) (h.okHi _ _ hb) ?_);funext ρ;have:=h.cofs hb ρ;rw[<-this.1,<-this.2,g5,g5]
   have key:e/2=H/2:=by
    rcases I with h0|⟨b,hb⟩
    ·rcases g2 with g6|⟨O,g0⟩
     . omega
     ·exfalso;simp only[lvE,g0]at g1;refine nohang _ _ g0 g1 fun ρ x=>?_
      rw[<-hV,h0,h.one,h.one]
    ·rcases g2 with g6|⟨O,g0⟩
     ·exfalso;simp only[lvE,hb]at hk;refine nohang _ _ hb hk fun ρ x=>?_
      rw[hV,g6,h.one,h.one]
     ·have hl:lvE n lev nodes (2*(e/2))=lev b.v:=by
       have:2*(e/2)/2=e/2:=by omega
       simp only[lvE,this,hb]
      have g9:lvE n lev nodes (2*(H/2))=lev O.v:=by
       have:2*(H/2)/2=H/2:=by omega
       simp only[lvE,this,g0]
      have V2:∀id,ef V (2*id)=V id:=by
       intro id;funext ρ
       have h1:2*id/2=id:=by omega
       have h2:2*id%2=0:=by omega
       simp[ef,h1,h2]
      simp only[lvE,hb]at hk;simp only[lvE,g0]at g1;rcases Zx (lev b.v) (lev O.v)with g8|g7|Y
      ·exfalso;refine nohang _ _ hb hk fun ρ x=>?_
       have:=h.indep_var (e:=2*(H/2)) (v:=b.v) (D9 g0) (by rw[g9];exact g8) ρ x;rw[V2]at this;rw[hV];exact this
      ·have g4:b.v=O.v:=h.inj _ _ (h.var _ _ hb) (h.var _ _ g0) g7;have c:b.lo=O.lo:=by
        refine U _ _ (by have:=h.lvLo _ _ hb;omega) (by have:=h.lvLo _ _ g0;omega) (h.okLo _ _ hb) (h.okLo _ _ g0) ?_;funext ρ;rw[<-(h.cofs hb ρ).2,<-(h.cofs g0 ρ).2,hV,g4]
       have Z:b.hi=O.hi:=by
        refine U _ _ (by have:=h.lvHi _ _ hb;omega) (by have:=h.lvHi _ _ g0;omega) (h.okHi _ _ hb) (h.okHi _ _ g0) ?_;funext ρ;rw[<-(h.cofs hb ρ).1,<-(h.cofs g0 ρ).1,hV,g4]
       have:b=O:=by cases b;cases O;simp_all
       subst this;exact h.uniq _ _ _ hb g0
      ·exfalso;refine nohang _ _ g0 g1 fun ρ x=>?_
       have:=h.indep_var (e:=2*(e/2)) (v:=O.v) (D9 hb) (by rw[hl];exact Y) ρ x;rw[V2]at this;rw[<-hV];exact this
   omega
def Dag.canon (h:Dag n lev nodes V){H:Nat}(U:okE nodes e)(I:okE nodes H)(O:ef V e=ef V H):e=H:=
 h.canonK n e H (by omega) (by omega) U I O
def Dag.canon_iff (h:Dag n lev nodes V){I:Nat}(O:okE nodes e)(H:okE nodes I):ef V e=ef V I↔e=I:=
 ⟨h.canon O H,λe=>by rw[e]⟩
def Dag.ef0 (h:Dag n lev nodes V):ef V 0=λ_=>true:=by funext ρ;simp[ef,h.one]
def Dag.ef1 (h:Dag n lev nodes V):ef V 1=λ_=>false:=by funext ρ;simp[ef,h.one]
def P3 (h:okE nodes e):okE nodes (e ^^^ 1):=by
 have h1:(e ^^^ 1)/2=e/2:=by
  have:=Nat.shiftRight_xor_distrib (a:=e) (b:=1) (i:=1);simpa [Nat.shiftRight_eq_div_pow]using this
 unfold okE at h⊢;rw[h1];exact h
def addN (nodes:Nat->Option BN)(id:Nat)(b:BN):Nat->Option BN:=λi=>if i=id then some b else nodes i
def addV (V:Nat->BF)(id:Nat)(b:BN):Nat->BF:=λi=>if i=id then iteF b.v (ef V b.hi) (ef V b.lo)else V i
theorem Ci (id:Nat)(b:BN):addN nodes id b id=some b:=by simp[addN]
theorem Bh (b:BN)(h:i≠id):addN nodes id b i=nodes i:=by simp[addN,h]
theorem Iy {b x:BN}(H:nodes id=none)(h:nodes i=some x):addN nodes id b i=some x:=by
 rw[Bh _ (by rintro rfl;rw[H]at h;cases h)];exact h
theorem Gf {b:BN}(H:nodes id=none)(h:okE nodes e):okE (addN nodes id b) e:=by
 rcases h with h|⟨x,h⟩
 . exact .inl h
 . exact .inr ⟨x,Iy H h⟩
abbrev Ye:=@Ne.symm
theorem P4 {b:BN}(I:nodes id=none)(H:id≠0)(h:okE nodes e):lvE n lev (addN nodes id b) e=lvE n lev nodes e:=by
 unfold lvE;rcases h with h|⟨x,h⟩
 . rw[h,Bh _ (Ye H)]
 . rw[Iy I h,h]
theorem P5 {b:BN}(I:nodes id=none)(H:id≠0)(h:okE nodes e):ef (addV V id b) e=ef V e:=by
 have:e/2≠id:=by
  rcases h with h|⟨x,h⟩
  . omega
  . rintro rfl;rw[I]at h;cases h
 funext ρ;simp only[ef,addV,Xu this]
abbrev Yr:=@Option.some.inj
theorem Dag.add (h:Dag n lev nodes V){b:BN}(X:nodes id=none)(H:id≠0)(f:b.v<n)(O:okE nodes b.lo)(U:okE nodes b.hi)
 (Y:lev b.v<lvE n lev nodes b.lo) (Z:lev b.v<lvE n lev nodes b.hi) (g:b.hi%2=0) (c:b.lo≠b.hi) (I:∀i,nodes i≠some b):
 Dag n lev (addN nodes id b) (addV V id b):=by
 have cs:∀i x,addN nodes id b i=some x->(i=id/\x=b)\/(i≠id/\nodes i=some x):=by
  intro i x hx
  by_cases e:i=id
  . subst e;rw[Ci]at hx;exact .inl ⟨rfl,(Yr hx).symm⟩
  . rw[Bh _ e]at hx;exact .inr ⟨e,hx⟩
 have L:∀e,okE nodes e->lvE n lev (addN nodes id b) e=lvE n lev nodes e:=λe a=>P4 X H a
 have F:∀e,okE nodes e->ef (addV V id b) e=ef V e:=λe a=>P5 X H a
 refine⟨fun ρ=>?_,?_,?_,h.inj,h.lt,?_,?_,?_,?_,?_,?_,?_,?_⟩
 . simp only[addV,Xu (Ye H),h.one]
 . rw[Bh _ (Ye H)];exact h.none0
 ·intro i x hx;rcases cs i x hx with ⟨_,rfl⟩|⟨_,hx⟩
  . exact f
  . exact h.var _ _ hx
 ·intro i x hx;rcases cs i x hx with ⟨_,rfl⟩|⟨_,hx⟩
  . exact Gf X O
  . exact Gf X (h.okLo _ _ hx)
 ·intro i x hx;rcases cs i x hx with ⟨_,rfl⟩|⟨_,hx⟩
  . exact Gf X U
  . exact Gf X (h.okHi _ _ hx)
 ·intro i x hx;rcases cs i x hx with ⟨_,rfl⟩|⟨_,hx⟩
  . rw[L _ O];exact Y
  . rw[L _ (h.okLo _ _ hx)];exact h.lvLo _ _ hx
 ·intro i x hx;rcases cs i x hx with ⟨_,rfl⟩|⟨_,hx⟩
  . rw[L _ U];exact Z
  . rw[L _ (h.okHi _ _ hx)];exact h.lvHi _ _ hx
 ·intro i x hx;rcases cs i x hx with ⟨_,rfl⟩|⟨_,hx⟩
  . exact g
  . exact h.reg _ _ hx
 ·intro i x hx;rcases cs i x hx with ⟨_,rfl⟩|⟨_,hx⟩
  . exact c
  . exact h.ne _ _ hx
 ·intro i j x hx d;rcases cs i x hx with ⟨e1,e⟩|⟨_,g1⟩
  ·rcases cs j x d with ⟨e2,_⟩|⟨_,g0⟩
   . rw[e1,e2]
   . subst e;exact absurd g0 (I _)
  ·rcases cs j x d with ⟨_,e⟩|⟨_,g0⟩
   . subst e;exact absurd g1 (I _)
   . exact h.uniq _ _ _ g1 g0
 ·intro i x hx;rcases cs i x hx with ⟨rfl,rfl⟩|⟨g2,hx⟩
  . rw[F _ O,F _ U];simp only[addV,Y1]
  . rw[F _ (h.okLo _ _ hx),F _ (h.okHi _ _ hx)];simp only[addV,Xu g2];exact h.eqn _ _ hx
def Dag.restrict (h:Dag n lev nodes V)(nodes':Nat->Option BN)(H:∀i b,nodes' i=some b->nodes i=some b)
 (I:∀i b,nodes' i=some b->okE nodes' b.lo/\okE nodes' b.hi):Dag n lev nodes' V:=by
 have h0:nodes' 0=none:=by
  cases e:nodes' 0 with
  | none=>rfl
  | some b=>have:=H _ _ e;rw[h.none0]at this;cases this
 have L:∀e,okE nodes' e->lvE n lev nodes' e=lvE n lev nodes e:=by
  intro e O;unfold lvE;rcases O with O|⟨x,O⟩
  . rw[O,h0,h.none0]
  . rw[O,H _ _ O]
 exact⟨h.one,h0,λi b hb=>h.var i b (H _ _ hb),h.inj,h.lt,λi b hb=>(I i b hb).1,λi b hb=>(I i b hb).2,
  λi b hb=>by rw[L _ (I i b hb).1];exact h.lvLo i b (H _ _ hb),λi b hb=>by rw[L _ (I i b hb).2];exact h.lvHi i b (H _ _ hb),
  λi b hb=>h.reg i b (H _ _ hb),λi b hb=>h.ne i b (H _ _ hb),λi j b hi U=>h.uniq i j b (H _ _ hi) (H _ _ U),λi b hb=>h.eqn i b (H _ _ hb)⟩
end
def KE (e:Nat):(e ^^^ 1)/2=e/2:=by
 have:=Nat.shiftRight_xor_distrib (a:=e) (b:=1) (i:=1);simpa [Nat.shiftRight_eq_div_pow]using this
def P6 (h:e<2*n):e ^^^ 1<2*n:=by have:=KE e;omega
abbrev aT:=@Nat.mod_eq_of_lt
def P7 (e:Nat)(O:e<4611686018427387904):bits .xor .i64 (e:Int) 1=((e ^^^ 1:Nat):Int):=by
 have hx:e ^^^ 1<4611686018427387904:=P6 (n:=2305843009213693952) (by omega);have I:BitVec.ofInt 64 ((e:Nat):Int)=BitVec.ofNat 64 e:=BitVec.ofInt_ofNat 64 e;have H:BitVec.ofInt 64 1=BitVec.ofNat 64 1:=rfl;have key:bits .xor .i64 (e:Int) 1=IntKind.i64.wrap (((BitVec.ofInt 64 ((e:Nat):Int)) ^^^ (BitVec.ofInt 64 1)).toNat:Nat):=rfl;rw[key,I,H,BitVec.toNat_xor,BitVec.toNat_ofNat,BitVec.toNat_ofNat,aT (by omega),aT (by omega),IntKind.wrap_i64];omega
def eMax:Nat:=4611686018427387904
def enot (e:Nat):Nat:=e ^^^ 1
def eflip (e:Nat)(b:Bool):Nat:=if b then enot e else e
def enode (e:Nat):Nat:=e/2
def eneg (e:Nat):Bool:=e%2 == 1
def DA (e:Nat):enot e/2=e/2:=KE e
def Dt (e:Nat)(b:Bool):eflip e b/2=e/2:=by unfold eflip;(split;· exact DA e);rfl
def Gg (e:Nat):enot e%2=1-e%2:=by
 unfold enot;have:=Nat.xor_mod_two_pow (a:=e) (b:=1) (n:=1);simp at this;rw[this];rcases Y4 e with h|h<;>rw[h]<;>rfl
def KG (e:Nat):enot e=if e%2=0 then e+1 else e-1:=by
 have h1:=DA e;have h2:=Gg e;split<;>omega
def KH (e:Nat):enot (enot e)=e:=by
 have h1:=KG e;have h2:=KG (enot e);have h3:=Gg e;split at h2<;>split at h1<;>omega
def DB (V:Nat->BF)(e:Nat)(ρ:Nat->Bool):ef V (enot e) ρ = !ef V e ρ:=P2 V e ρ
def CD (V:Nat->BF)(e:Nat)(b:Bool)(ρ:Nat->Bool):ef V (eflip e b) ρ=(b != ef V e ρ):=by
 unfold eflip;cases b
 . simp
 . simp[DB]
def Iz (h:okE N e):okE N (enot e):=P3 h
def Du {b:Bool}(h:okE N e):okE N (eflip e b):=by unfold eflip;(split;· exact Iz h);exact h
def Gh (e:Nat)(w:Wd)(H:e<eMax):
 Cl 112 #[Iv e] w (Sm (Iv (enot e:Nat)) w):=by
 have hb:=P7 e H
 go_enter func112,ntmps112
 go_wp2
 go_ret;exact⟨rfl,rfl⟩
def Cz (e:Nat)(b:Bool)(w:Wd)(H:e<eMax):
 Cl 116 #[Iv e,.bool b] w (Sm (Iv (eflip e b:Nat)) w):=by
 cases b
 ·go_enter func116,ntmps116
  go_wp2
  go_ret;exact⟨rfl,rfl⟩
 ·go_enter func116,ntmps116
  go_wp2_with fail;refine(Gh e _ H).mono ?_;rintro x w' ⟨rfl,rfl⟩;go_wp2;go_ret;exact⟨rfl,rfl⟩
abbrev ZN:=@Int.tdiv_eq_ediv_of_nonneg
def BJ (e:Nat)(w:Wd)(H:e<eMax):
 Cl 105 #[Iv e] w (Sm (Iv (enode e:Nat)) w):=by
 unfold eMax at H;have O:max (e:Int) 0=e:=by omega
 have U:(e:Int).tdiv 2=(e:Int)/2:=ZN (by omega);have I:Hq (((enode e:Nat):Int)=(e:Int)/2):=by show _=_;unfold enode;omega
 go_enter func105,ntmps105
 go_wp2
 go_ret;exact⟨Iu I.o.symm,rfl⟩
abbrev YI:=@Int.tmod_eq_emod_of_nonneg
def CZ (e:Nat)(w:Wd)(I:e<eMax):
 Cl 60 #[Iv e] w (Sm (.bool (eneg e)) w):=by
 unfold eMax at I
 by_cases U:0<e
 ·have g0:(0:Int)<e:=by omega
  have X:(e:Int).tmod 2=(e:Int)%2:=YI (by omega)
  by_cases h1:e%2=1
  ·have O:((e:Int)%2 == 1)=true:=by simp;omega
   have H:Hq (eneg e=true):=by show _=_;simp[eneg,h1]
   clear h1
   go_enter func60,ntmps60
   go_wp2
   go_ret;exact⟨CJ H.o.symm,rfl⟩
  ·have O:((e:Int)%2 == 1)=false:=by simp;omega
   have H:Hq (eneg e=false):=by show _=_;simp[eneg];omega
   clear h1
   go_enter func60,ntmps60
   go_wp2
   go_ret;exact⟨CJ H.o.symm,rfl⟩
 ·obtain rfl:e=0:=by omega
  go_enter func60,ntmps60
  go_wp2
  go_ret;exact⟨CJ (by decide),rfl⟩
def DC (e:Nat)(w:Wd)(O:e<eMax):
 Cl 59 #[Iv e] w (Sm (.bool (decide (enode e=0))) w):=by
 go_enter func59,ntmps59
 go_wp2_with fail;refine(BJ e _ O).mono ?_;rintro x w' ⟨rfl,rfl⟩
 by_cases h:enode e=0
 ·have H:((enode e:Int) == 0)=true:=by simp[h]
  have I:Hq (decide (enode e=0)=true):=by show _=_;simp[h]
  clear h;go_wp2;go_ret;exact⟨CJ I.o.symm,rfl⟩
 ·have H:((enode e:Int) == 0)=false:=by simp;exact h
  have I:Hq (decide (enode e=0)=false):=by show _=_;simp[h]
  clear h;go_wp2;go_ret;exact⟨CJ I.o.symm,rfl⟩
def I0 (lo hi:Nat)(w:Wd)(hl:lo<eMax)(hh:hi<eMax):
 Cl 153 #[Iv lo,Iv hi] w (Sm (.tuple #[Iv (eflip lo (eneg hi):Nat),Iv (eflip hi (eneg hi):Nat),.bool (eneg hi)]) w):=by
 obtain⟨b,hb⟩:∃b,eneg hi=b:=⟨_,rfl⟩;rw[hb];have H:=Hd hb;clear hb
 go_enter func153,ntmps153
 go_wp2_with fail;refine(CZ hi _ hh).mono ?_;rintro x w' ⟨rfl,rfl⟩;rw[H.o];go_wp2_with fail;refine(Cz lo _ _ hl).mono ?_;rintro x w' ⟨rfl,rfl⟩;go_wp2_with fail;refine(Cz hi _ _ hh).mono ?_;rintro x w' ⟨rfl,rfl⟩;go_wp2
 go_ret3
 exact⟨rfl,rfl⟩
theorem I1 (id:Nat)(b:Bool)(w:Wd)(hi:id<2305843009213693952):
 Cl 156 #[Iv id,.bool b] w (Sm (Iv (eflip (2*id) b:Nat)) w):=by
 have O:max (id:Int) 0=id:=by omega
 have H:2*id<eMax:=by unfold eMax;omega
 have I:Hq ((2:Int)*id=((2*id:Nat):Int)):=by show _=_;omega
 go_enter func156,ntmps156
 go_wp2_with fail;rw[I.o];refine(Cz (2*id) b _ H).mono ?_;rintro x w' ⟨rfl,rfl⟩;go_wp2;go_ret;exact⟨rfl,rfl⟩
def Ah:Nat->(Nat->Int)->Int
 | 0,_=>0
 | k+1,f=>Ah k f+f k
def B5 {f g:Nat->Int}:∀(k:Nat),(∀i,i<k->f i=g i)->Ah k f=Ah k g
 | 0,_=>rfl
 | k+1,h=>by rw[Ah,Ah,B5 k (λi hi=>h i (by omega)),h k (by omega)]
def DD:∀(k:Nat),Ah k (λ_=>0)=0
 | 0=>rfl
 | k+1=>by rw[Ah,DD k];rfl
def Dv {f g:Nat->Int}{j:Nat}(H:∀i,i≠j->g i=f i):∀(k:Nat),j<k->Ah k g=Ah k f+(g j-f j)
 | 0,h=>by omega
 | k+1,h=>by
   rw[Ah,Ah]
   by_cases e:j=k
   . subst e;rw[B5 j (λi hi=>H i (by omega))];omega
   . rw[Dv H k (by omega),H k (Ye e)];omega
abbrev ZY:=@Int.le_refl
def Gi {f:Nat->Int}:∀(k:Nat),(∀i,i<k->0<=f i)->0<=Ah k f
 | 0,_=>ZY 0
 | k+1,h=>by rw[Ah];have:=Gi k (λi hi=>h i (by omega));have:=h k (by omega);omega
def Gj {f:Nat->Int}{j:Nat}:∀(k:Nat),(∀i,i<k->0<=f i)->j<k->f j<=Ah k f
 | 0,_,h=>by omega
 | k+1,h,hj=>by
   rw[Ah]
   by_cases e:j=k
   . subst e;have:=Gi j (λi hi=>h i (by omega));omega
   . have:=Gj k (λi hi=>h i (by omega)) (j:=j) (by omega);have:=h k (by omega);omega
abbrev Zq:=@Nat.add_assoc
def KI {f:Nat->Int}(k:Nat):∀(m:Nat),(∀i,k<=i->f i=0)->Ah (k+m) f=Ah k f
 | 0,_=>rfl
 | m+1,h=>by rw[<-Zq,Ah,KI k m h,h (k+m) (by omega)];omega
def KJ {f:Nat->Int}(h:∀i,k<=i->f i=0)(hk:k<=k'):Ah k' f=Ah k f:=by
 obtain⟨m,rfl⟩:=Nat.le.dest hk;exact KI k m h
def toE (e x:Nat):Int:=if e/2=x then 1 else 0
def CE (e x:Nat):0<=toE e x:=by unfold toE;split<;>omega
def E9 (e:Nat):toE e (e/2)=1:=by simp[toE]
def C0 (b:BN)(x:Nat):Int:=toE b.lo x+toE b.hi x
def from1 (N:Nat->Option BN)(c:Nat->Nat)(x p:Nat):Int:=
 match N p with
 | some b=>if 0<c p then C0 b x else 0
 | none=>0
def KK (N:Nat->Option BN)(c:Nat->Nat)(x p:Nat):0<=from1 N c x p:=by
 unfold from1 C0;split
 . rename_i b _;have:=CE b.lo x;have:=CE b.hi x;split<;>omega
 . omega
structure Cnt (k:Nat)(N:Nat->Option BN)(c:Nat->Nat)(ext:Nat->Int):Prop where
 lt:∀i b,N i=some b->i<k
 eq:∀x b,N x=some b->(c x:Int)=ext x+Ah k (from1 N c x)
def bump (f:Nat->Int)(x:Nat)(d:Int):Nat->Int:=λi=>if i=x then f i+d else f i
def setC (c:Nat->Nat)(x v:Nat):Nat->Nat:=λi=>if i=x then v else c i
def addE (f:Nat->Int)(e:Nat)(d:Int):Nat->Int:=λi=>f i+d*toE e i
section
variable {c:Nat->Nat}{ext:Nat->Int}
def Cnt.congr (h:Cnt k N c ext){ext':Nat->Int}(H:∀x b,N x=some b->ext' x=ext x):Cnt k N c ext':=
 ⟨h.lt,λx b hb=>by rw[H x b hb];exact h.eq x b hb⟩
def Cnt.weaken (h:Cnt k N c ext)(hk:k<=k'):Cnt k' N c ext:=
 ⟨λi b hb=>X5 (h.lt i b hb) hk,λx b hb=>by
  rw[h.eq x b hb,KJ (λi hi=>by
   unfold from1;cases e:N i with
   | none=>rfl
   | some b=>have:=h.lt i b e;omega) hk]⟩
def Cnt.moreLive (h:Cnt k N c ext)(H:0<c x):Cnt k N (setC c x (c x+1)) (bump ext x 1):=by
 refine⟨h.lt,λz b hb=>?_⟩;have e1:Ah k (from1 N (setC c x (c x+1)) z)=Ah k (from1 N c z):=B5 k λi _=>by
  unfold from1;cases N i with
  | none=>rfl
  | some b=>
    by_cases e:i=x
    . subst e;simp only[setC,Y1,H,show 0<c i+1 from by omega]
    . simp only[setC,Xu e]
 rw[e1];have:=h.eq z b hb
 by_cases e:z=x
 . subst e;simp only[setC,bump,Y1];omega
 . simp only[setC,bump,Xu e];exact this
def Cnt.moreDead (h:Cnt k N c ext){b:BN}(hx:N x=some b)(I:c x=0):
 Cnt k N (setC c x 1) (addE (addE (bump ext x 1) b.lo (-1)) b.hi (-1)):=by
 refine⟨h.lt,λz U H=>?_⟩;have e1:Ah k (from1 N (setC c x 1) z)=Ah k (from1 N c z)+(from1 N (setC c x 1) z x-from1 N c z x):=by
  refine Dv (λi hi=>?_) k (h.lt x b hx);unfold from1;simp only[setC,Xu hi]
 have e2:from1 N (setC c x 1) z x=C0 b z:=by simp[from1,hx,setC]
 have O:from1 N c z x=0:=by simp[from1,hx,I]
 rw[e1,e2,O];have:=h.eq z U H;unfold C0;simp only[addE,bump,setC]
 by_cases e:z=x
 . subst e;simp only[Y1];omega
 . simp only[Xu e];omega
def Cnt.lessLive (h:Cnt k N c ext)(H:1<c x):Cnt k N (setC c x (c x-1)) (bump ext x (-1)):=by
 refine⟨h.lt,λz b hb=>?_⟩;have e1:Ah k (from1 N (setC c x (c x-1)) z)=Ah k (from1 N c z):=B5 k λi _=>by
  unfold from1;cases N i with
  | none=>rfl
  | some b=>
    by_cases e:i=x
    . subst e;simp only[setC,Y1,show 0<c i from by omega,show 0<c i-1 from by omega]
    . simp only[setC,Xu e]
 rw[e1];have:=h.eq z b hb
 by_cases e:z=x
 . subst e;simp only[setC,bump,Y1];omega
 . simp only[setC,bump,Xu e];exact this
def Cnt.lessDies (h:Cnt k N c ext){b:BN}(hx:N x=some b)(I:c x=1):
 Cnt k N (setC c x 0) (addE (addE (bump ext x (-1)) b.lo 1) b.hi 1):=by
 refine⟨h.lt,λz U H=>?_⟩;have e1:Ah k (from1 N (setC c x 0) z)=Ah k (from1 N c z)+(from1 N (setC c x 0) z x-from1 N c z x):=by
  refine Dv (λi hi=>?_) k (h.lt x b hx);unfold from1;simp only[setC,Xu hi]
 have e2:from1 N (setC c x 0) z x=0:=by simp[from1,hx,setC]
 have O:from1 N c z x=C0 b z:=by simp[from1,hx,I]
 rw[e1,e2,O];have:=h.eq z U H;unfold C0;simp only[addE,bump,setC]
 by_cases e:z=x
 . subst e;simp only[Y1];omega
 . simp only[Xu e];omega
def Cnt.pos_of_ext (h:Cnt k N c ext){b:BN}(hx:N x=some b)(H:1<=ext x):0<c x:=by
 have:=h.eq x b hx;have h2:0<=Ah k (from1 N c x):=Gi k λi _=>KK N c x i
 omega
def Cnt.pos_of_live (h:Cnt k N c ext){p:Nat}{H:BN}(I:N p=some H)(U:0<c p)(O:e=H.lo\/e=H.hi){b:BN}(hx:N (e/2)=some b)(h0:0<=ext (e/2)):0<c (e/2):=by
 have:=h.eq _ b hx;have h2:from1 N c (e/2) p<=Ah k (from1 N c (e/2)):=Gj k (λi _=>KK N c _ i) (h.lt p H I);have h3:1<=from1 N c (e/2) p:=by
  simp only[from1,I,U,Y1,C0];have a:=CE H.lo (e/2);have b:=CE H.hi (e/2);rcases O with rfl|rfl
  . have:=E9 H.lo;omega
  . have:=E9 H.hi;omega
 omega
def Cnt.collect (h:Cnt k N c ext)(O:Nat->Option BN)(I:∀i,O i=if 0<c i then N i else none):Cnt k O c ext:=by
 refine⟨λi b hb=>?_,λx b hb=>?_⟩
 ·rw[I]at hb;split at hb
  . exact h.lt i b hb
  . cases hb
 ·have g0:N x=some b:=by
   rw[I]at hb;split at hb
   . exact hb
   . cases hb
  rw[h.eq x b g0];congr 1;refine B5 k λi _=>?_
  unfold from1;rw[I]
  by_cases H:0<c i
  . rw[Xx H]
  ·rw[Xu H];cases N i with
   | none=>rfl
   | some b=>simp[H]
theorem Cnt.add (h:Cnt k N c ext){b:BN}(X:N id=none)(I:∀i H,N i=some H->H.lo/2≠id/\H.hi/2≠id)(O:id<k):
 Cnt k (addN N id b) (setC c id 0) (λi=>if i=id then 0 else ext i):=by
 have hs:∀x,Ah k (from1 (addN N id b) (setC c id 0) x)=Ah k (from1 N c x):=λx=>B5 k λi _=>by
  unfold from1
  by_cases e:i=id
  . subst e;rw[Ci,X];simp[setC]
  . rw[Bh _ e];simp only[setC,Xu e]
 refine⟨λi U hb=>?_,λx U hb=>?_⟩
 ·by_cases e:i=id
  . rw[e];exact O
  . rw[Bh _ e]at hb;exact h.lt i U hb
 ·rw[hs]
  by_cases e:x=id
  ·subst e;simp only[setC,Y1];rw[B5 k (g:=λ_=>0) (λi _=>?_),DD]
   . rfl
   ·unfold from1;cases hi:N i with
    | none=>rfl
    | some H=>
      have:=I i H hi;simp[C0,toE,this.1,this.2]
  . rw[Bh _ e]at hb;simp only[setC,Xu e];exact h.eq x U hb
def Cnt.setLive (h:Cnt k N c ext){b H:BN}(hx:N x=some b)(I:0<c x):
 Cnt k (λi=>if i=x then some H else N i) c (addE (addE (addE (addE ext b.lo 1) b.hi 1) H.lo (-1)) H.hi (-1)):=by
 refine⟨λi b2 hb=>?_,λz b2 hb=>?_⟩
 ·split at hb
  . rename_i e;rw[e];exact h.lt x b hx
  . exact h.lt i b2 hb
 ·have O:∃q,N z=some q:=by
   split at hb
   . rename_i e;rw[e];exact⟨b,hx⟩
   . exact⟨b2,hb⟩
  obtain⟨q,U⟩:=O;have e1:Ah k (from1 (λi=>if i=x then some H else N i) c z)=Ah k (from1 N c z)+(from1 (λi=>if i=x then some H else N i) c z x-from1 N c z x):=by
   refine Dv (λi hi=>?_) k (h.lt x b hx);unfold from1;simp only[Xu hi]
  have e2:from1 (λi=>if i=x then some H else N i) c z x=C0 H z:=by simp[from1,I]
  have X:from1 N c z x=C0 b z:=by simp[from1,hx,I]
  rw[e1,e2,X];have:=h.eq z q U;unfold C0;simp only[addE];omega
end
def dead1 (N:Nat->Option BN)(c:Nat->Nat)(i:Nat):Int:=
 match N i with
 | some _=>if c i=0 then 1 else 0
 | none=>0
def Bb (k:Nat)(N:Nat->Option BN)(c:Nat->Nat):Int:=Ah k (dead1 N c)
def KL (N:Nat->Option BN)(c:Nat->Nat)(i:Nat):0<=dead1 N c i:=by unfold dead1;split<;>first|omega|(split<;>omega)
def Gk {c:Nat->Nat}{v:Nat}{b:BN}(hx:N x=some b)(hk:x<k):
 Bb k N (setC c x v)=Bb k N c+((if v=0 then 1 else 0)-(if c x=0 then 1 else 0)):=by
 unfold Bb;rw[Dv (f:=dead1 N c) (j:=x) (λi hi=>?_) k hk]
 . simp[dead1,hx,setC]
 . unfold dead1;simp only[setC,Xu hi]
section
def reaches (ops:Array Oper):Nat->Nat->Nat->Bool
 | 0,_,_=>false
 | f+1,i,j=>match ops[j]? with
   | none=>false
   | some H=>H.after.any λe=>Region.binds .any e&&(e.on == i||reaches ops f i e.on)
def Closed (ops:Array Oper)(L:Array Bool):Prop:=∀j H,ops[j]?=some H->L.getD j false=true->∀e∈H.after,Region.binds .any e=true->L.getD e.on false=true
def Gl (n:Nat):Closed ops (Array.replicate n false):=by
 intro j I _ h;rcases X9 j n with H|H<;>simp[H]at h
abbrev ZZ:=@mem_ready
def Closed.set (h:Closed ops L)(hi:i∈Region.ready .any ops L):Closed ops (L.setIfInBounds i true):=by
 obtain⟨_,U,g2,g1⟩:=ZZ.1 hi;intro j H I hl e O hb
 by_cases g0:i=j
 . subst g0;obtain rfl:H=U:=Yr (I.symm.trans g2);exact getD_set_true (g1 e O hb)
 . rw[getD_set_ne false g0]at hl;exact getD_set_true (h j H I hl e O hb)
abbrev XH:=@Bool.and_eq_true
abbrev ZO:=@beq_iff_eq
def Fp {L:Array Bool}(X:Closed ops L){i:Nat}:∀(f j:Nat),(j∈Region.ready .any ops L\/L.getD j false=true)->reaches ops f i j=true->L.getD i false=true
 | 0,_,_,h=>by simp[reaches]at h
 | f+1,j,I,h=>by
   unfold reaches at h;split at h
   . cases h
   ·rename_i O H
    obtain⟨e,U,h2⟩:=Array.any_eq_true'.1 h;simp only[XH,Bool.or_eq_true,ZO]at h2;have hl:L.getD e.on false=true:=by
     rcases I with I|I
     . obtain⟨_,o',g1,g0⟩:=ZZ.1 I;obtain rfl:o'=O:=Yr (g1.symm.trans H);exact g0 e U h2.1
     . exact X j O H I e U h2.1
    rcases h2.2 with e1|e1
    . rw[<-e1];exact hl
    . exact Fp X f e.on (.inr hl) e1
abbrev ZD:=@Array.getElem?_eq_none
def I2 (h:L.getD i true=false):L.getD i false=false:=by
 rcases X9 i L.size with H|H
 . simp[H]at h⊢;exact h
 . simp[ZD H]at h
def Eg (P:Program)(ops:Array Oper)(Q:Exit->Act->Wd->Prop)(S:Wd->Prop)(m:Nat):Nat->Array Bool->Act->Wd->Prop
 | 0,L,a,w=>Region.ready .any ops L=[]/\Q .normal a w
 | f+1,L,a,w=>(Region.ready .any ops L=[]->Q .normal a w) /\
   ∀i∈Region.ready .any ops L,wpOp P ops Q i (λH w'=>(i=m\/S w')/\Eg P ops Q S m f (L.setIfInBounds i true) H w') a w
def Gm {m:Nat}:∀(f:Nat) (L:Array Bool) (a:Act) (w:Wd),Eg P ops Q S m f L a w->wpAny P .any ops Q f L a w
 | 0,_,_,_,h=>h
 | f+1,_,_,_,h=>⟨h.1,λi hi=>wpOp_mono (λI w' H=>Gm f _ I w' H.2) (h.2 i hi)⟩
abbrev ZW:=@ready_mono
abbrev Yk:=@decide_eq_true_eq
abbrev Zy:=@Region.noSelect_spec
abbrev Z1:=@Array.setIfInBounds_comm
def I3 {m:Nat}{U:Oper}(hi:ops[i]?=some U)(hs:Region.noSelect ops=true)(q:∀c (a:Act) d v w,Q (.panic c) (a.put d v) w->Q (.panic c) a w)
 (Y:(decide (ops.size<=m)||reaches ops ops.size i m)=true):
 ∀(f:Nat) (L:Array Bool) (a:Act) (w:Wd),Closed ops L ->
  (∀j I,ops[j]?=some I->j≠i->L.getD j true=false->(∀e∈I.after,Region.binds .any e=true->e.on≠i)->U.apart ops I=true) ->
  i∈Region.ready .any ops L->YieldsIf P ops S U v a->S w ->
  Eg P ops Q S m f (L.setIfInBounds i true) (a.put U.dst v) w->Eg P ops Q S m (f+1) L a w:=by
 intro f
 induction f with
 | zero=>
   intro L a w _ _ O g Z H;refine⟨λh=>(by rw[h]at O;cases O),λj X=>?_⟩
   by_cases g0:j=i
   . subst g0;exact g.wpOp hi Z ⟨.inr Z,H⟩
   . have:=ZW X g0;rw[H.1]at this;cases this
 | succ f n=>
   intro L a w l g2 O g Z H;refine⟨λh=>(by rw[h]at O;cases O),λj X=>?_⟩
   by_cases g0:j=i
   . subst g0;exact g.wpOp hi Z ⟨.inr Z,H⟩
   ·have h1:=H.2 j (ZW X g0);obtain⟨g3,I,g1,t⟩:=ZZ.1 X;have g4:=I2 (ZZ.1 O).1;have g9:∀e∈I.after,Region.binds .any e=true->e.on≠i:=λe p hb ge=>by
     have h1:=t e p hb;rw[ge,g4]at h1;cases h1
    have r:j≠m:=by
     rintro rfl;simp only[Bool.or_eq_true,Yk]at Y;rcases Y with Y|Y
     . have:=(Xt.1 g1).1;omega
     . have:=Fp l _ _ (.inl X) Y;rw[g4]at this;cases this
    have h2:=wpOp_putIf g1 (g2 j I g1 g0 g3 g9) (λcs b=>Zy hs i U cs b hi) (λcs b=>Zy hs j I cs b g1) (λc a w=>q c a _ _ w) g h1;have g5:∀k ok,ops[k]?=some ok->k≠i->(L.setIfInBounds j true).getD k true=false ->
     (∀e∈ok.after,Region.binds .any e=true->e.on≠i)->U.apart ops ok=true:=λk ok hk gc g6 s=>by
     refine g2 k ok hk gc ?_ s
     by_cases g7:j=k
     . subst g7;exact g3
     . rw[getD_set_ne true g7]at g6;exact g6
    refine wpOp_mono (λu w' h3=>?_) h2;have g8:=h3.2.1.resolve_left r;refine⟨.inr g8,n (L.setIfInBounds j true) u w' (l.set X) g5 (ZW O (Ye g0)) h3.1 g8 ?_⟩;rw[Z1 _ _ g0];exact h3.2.2
def mixB (ops:Array Oper)(m:Nat):List (Nat×Bool)->Array Bool->Bool
 | [],L=>(Region.ready .any ops L).isEmpty
 | (i,true)::r,L=>decide (Region.ready .any ops L=[i])&&mixB ops m r (L.setIfInBounds i true)
 | (i,false)::r,L=>(Region.ready .any ops L).contains i&&Region.free .any ops L i&&(decide (ops.size<=m)||reaches ops ops.size i m)&&mixB ops m r (L.setIfInBounds i true)
def AG (P:Program)(ops:Array Oper)(Q:Exit->Act->Wd->Prop)(S:Wd->Prop)(last:Bool):List (Option Oper×Bool)->Act->Wd->Prop
 | [],a,w=>Q .normal a w
 | (none,_)::_,_,_=>False
 | (some o,false)::r,a,w=>∃v,YieldsIf P ops S o v a/\AG P ops Q S last r (a.put o.dst v) w
 | (some o,true)::r,a,w=>if Region.wanted o (yielded ops a.tmps)then o.wp P a w (λH w'=>((last&&r.isEmpty)=true\/S w')/\AG P ops Q S last r H w') Q else AG P ops Q S last r (a.put o.dst undef) w
def planned (l:List Oper)(H:List (Nat×Bool)):List (Option Oper×Bool):=H.map λp=>(l[p.1]?,p.2)
abbrev ZR:=@List.isEmpty_iff
abbrev Yz:=@List.map_cons
abbrev aU:=@Region.free_spec
def Gn {l:List Oper}{m:Nat}{last:Bool}(hs:Region.noSelect l.toArray=true)(f:∀c (a:Act) d v w,Q (.panic c) (a.put d v) w->Q (.panic c) a w):
 ∀(H:List (Nat×Bool)) (L:Array Bool) (a:Act) (w:Wd),(last=true->(H.getLast?.map (·.1)=some m\/H=[])) ->
 mixB l.toArray m H L=true->Closed l.toArray L->S w\/H=[]->AG P l.toArray Q S last (planned l H) a w->Eg P l.toArray Q S m H.length L a w
 | [],L,a,w,_,I,_,_,h=>⟨by simpa [mixB,ZR]using I,h⟩
 | (i,b)::r,L,a,w,hl,I,hc,hS,h=>by
   have O:=hS.resolve_right (by simp);have U:last=true->(r.getLast?.map (·.1)=some m\/r=[]):=λe=>by
    cases r with
    | nil=>exact .inr rfl
    | cons x r=>left;simpa using(hl e).resolve_right (by simp)
   cases hi:l[i]? with
   | none=>simp only[planned,Yz,hi,AG]at h
   | some o=>
     have X:l.toArray[i]?=some o:=by simpa using hi
     simp only[planned,Yz,hi]at h;cases b with
     | false=>
       simp only[mixB,XH]at I;obtain⟨⟨⟨Y,q⟩,p⟩,I⟩:=I;obtain⟨v,k,n⟩:=h;have g0:i∈Region.ready .any l.toArray L:=by simpa using Y
       exact I3 X hs f p _ L a w hc (aU X q) g0 k O (Gn hs f r _ _ w U I (hc.set g0) (.inl O) n)
     | true=>
       simp only[mixB,XH,Yk]at I;obtain⟨Y,I⟩:=I;refine⟨λh0=>(by rw[h0]at Y;cases Y),λj Z=>?_⟩;have g1:j=i:=by rw[Y]at Z;simpa using Z
       subst g1;simp only[AG]at h;unfold wpOp;rw[X]
       by_cases g:Region.wanted o (yielded l.toArray a.tmps)=true
       ·simp only[g,Y1]at h⊢;left;refine Oper.wp_mono ?_ h;intro s w' ⟨h1,h2⟩;refine⟨?_,?_⟩
        ·rcases h1 with h1|h1
         . simp only[XH,ZR,List.map_eq_nil_iff]at h1;obtain⟨h1,rfl⟩:=h1;left;simpa using(hl h1)
         . exact .inr h1
        ·refine Gn hs f r _ _ w' U I (hc.set Z) ?_ h2;rcases h1 with h1|h1
         . simp only[XH,ZR,List.map_eq_nil_iff]at h1;exact .inr h1.2
         . exact .inl h1
       . simp only[g]at h⊢;exact⟨.inr O,Gn hs f r _ _ w U I (hc.set Z) (.inl O) h⟩
def NP (Q:Exit->Act->Wd->Prop):Exit->Act->Wd->Prop
 | .panic _,_,_=>False
 | e,a,w=>Q e a w
def KM {s:Code}(h:s.wp P (NP Q) a w):s.wp P Q a w:=
 Code.wp_mono (λe a w h=>by cases e<;>first|exact h|exact h.elim) h
theorem AJ (S:Wd->Prop)(last:Bool)(m:Nat)(H:List (Nat×Bool))(O:P.follows .mixedOrders=true)
 (I:(Region.noSelect l.toArray&&decide (H.length=l.toArray.size)&&(!last||decide (H.getLast?.map (·.1)=some m))&&mixB l.toArray m H (Array.replicate l.toArray.size false))=true)
 (U:S w.drew) (h:AG P l.toArray (NP Q) S last (planned l H) a w.drew):(Code.region id l.toArray true).wp P Q a w:=by
 simp only[XH,Yk]at I;obtain⟨⟨⟨hs,g0⟩,hl⟩,I⟩:=I;refine KM (wp_region_any O (Gm _ _ _ _ ?_ (S:=S) (m:=m)));rw[<-g0];refine Gn hs (λ_ _ _ _ _ h=>h) H _ _ _ (λe=>?_) (by rw[g0];exact I) (Gl _) (.inl U) h;subst e;left;simpa using hl
def C2 (h:Q .normal a w):NP Q .normal a w:=h
def B6 (h:Q .normal a w):AG P ops (NP Q) S last [] a w:=h
def P8 {o:Oper}{r:List (Option Oper×Bool)}(I:o.guard=none)(H:∀w,S w->(execOp a.eval o).run P w=.ok (.value v) w)
 (h:AG P ops Q S last r (a.put o.dst v) w):AG P ops Q S last ((some o,false)::r) a w:=
 ⟨v,.inl ⟨by simp[Region.wanted,I],H⟩,h⟩
def A0 {o:Oper}{r:List (Option Oper×Bool)}(H:o.guard=none)
 (h:∃v,(∀w,S w->(execOp a.eval o).run P w=.ok (.value v) w)/\AG P ops Q S last r (a.put o.dst v) w):AG P ops Q S last ((some o,false)::r) a w:=by
 obtain⟨v,h1,h2⟩:=h;exact P8 H h1 h2
def Eh {o:Oper}{r:List (Option Oper×Bool)}(b:Bool)(hb:Region.wanted o (yielded ops a.tmps)=b)
 (h:∃v,(b=true->∀w,S w->(execOp a.eval o).run P w=.ok (.value v) w)/\AG P ops Q S last r (a.put o.dst (if b then v else undef)) w):AG P ops Q S last ((some o,false)::r) a w:=by
 obtain⟨v,h1,h2⟩:=h;cases b with
 | true=>exact⟨v,.inl ⟨hb,h1 rfl⟩,h2⟩
 | false=>exact⟨undef,.inr ⟨hb,rfl⟩,h2⟩
def Ei {o:Oper}{r:List (Option Oper×Bool)}(I:o.guard=none)
 (O:(execOp a.eval o).run P w=.ok (.value v) w') (U:S w') (h:AG P ops Q S last r (a.put o.dst v) w'):AG P ops Q S last ((some o,true)::r) a w:=by
 have H:Region.wanted o (yielded ops a.tmps)=true:=by simp[Region.wanted,I]
 unfold AG;simp only[H,Y1,Oper.wp,O,Oper.upon];exact⟨.inr U,h⟩
abbrev Yx:=@Sem.run_bind
abbrev XY:=@Result.andThen_ok
abbrev aE:=@List.map_nil
def KN {o:Oper}{s x:Operand}{u:TypeId}{y:Value}(I:o.op=.call { callee:=.builtin .append,args:=#[s,x],argTypes:=#[t,u] })
 (hs:a.eval s=v) (hx:a.eval x=y) (H:(Builtin.append_ #[t,u] o.type #[v,y]).run P w=.ok v' w'):(execOp a.eval o).run P w=.ok (.value v') w':=by
 unfold execOp;simp only[I,resolve,invoke,builtin,Yx,Sem.run_pure,XY,List.map_toArray,Yz,aE,hs,hx,H]
def Fq {o:Oper}{r:List (Option Oper×Bool)}(O:o.guard=none)
 (h:∀K:Act->Wd->Prop,(∀H w',S w'->AG P ops Q S last r H w'->K H w')->o.wp P a w K Q):AG P ops Q S last ((some o,true)::r) a w:=by
 have I:Region.wanted o (yielded ops a.tmps)=true:=by simp[Region.wanted,O]
 unfold AG;simp only[I,Y1];exact h _ λH w' h1 h2=>⟨.inr h1,h2⟩
def DE {o:Oper}(O:o.guard=none)
 (h:∀K:Act->Wd->Prop,(∀H w',Q .normal H w'->K H w')->o.wp P a w K Q):AG P ops Q S true [(some o,true)] a w:=by
 have I:Region.wanted o (yielded ops a.tmps)=true:=by simp[Region.wanted,O]
 unfold AG;simp only[I,Y1];exact h _ λH w' h1=>⟨.inl rfl,h1⟩
end
structure RN where
 id:Nat
 v:Nat
 lo:Nat
 hi:Nat
 refs:Nat
def rn0:RN:=⟨0,0,0,0,0⟩
def nat64 (n:Nat):Value:=Iv n
def rnV (n:RN):List Value:=[Iv n.id,Iv n.v,Iv n.lo,Iv n.hi,Iv n.refs]
def Gp (n:RN):(rnV n).length=5:=rfl
def Ao (n:RN):Value:=.agg #[Iv n.id,Iv n.v,Iv n.lo,Iv n.hi,Iv n.refs]
structure Ae where
 room:Nat
 at_:List RN
 taken:List Bool
 free:List Nat
 many:Nat
variable {p:Ae}
def Ae.tk (p:Ae)(i:Nat):Bool:=p.taken.getD i false
def Ae.nd (p:Ae)(i:Nat):RN:=p.at_.getD i rn0
def Ae.get (p:Ae)(i:Nat):Option RN:=if p.tk i=true then some (p.nd i)else none
structure Aq (o:Own)(w:Wd)(pb:Nat)(p:Ae):Prop where
 own:o pb=some .pool
 blk:∃vs vt vf,w.heap[pb]?=some (.cells #[Iv p.room,vs,vt,vf,Iv p.many] 219 (0,0)) /\
  RowR o w .slots 203 5 vs p.at_.length (p.at_.flatMap rnV)/\RowR o w .taken 4 1 vt p.taken.length (p.taken.map Value.bool) /\
  RowR o w .free 3 1 vf p.free.length (p.free.map nat64)
 len:p.taken.length=p.at_.length
 room:p.room<=1048576
 top:p.at_.length<=p.room+1
 zero:p.tk 0=false
 pos:0<p.at_.length
 id:∀i,p.tk i=true->(p.nd i).id=i
 many:p.many+p.free.length+1=p.at_.length
 nodup:p.free.Nodup
 free:∀i,i∈p.free->0<i/\i<p.at_.length/\p.tk i=false
 cnt:(p.many:Int)=Ah p.at_.length (λi=>if p.tk i=true then 1 else 0)
def A2 {H:Array Value}{e:TypeId}{I:Nat×Nat}(h:w.heap[g]?=some (.cells H e I))(u:Value):(w.setCell (Aw g k) u).heap[g]?=some (.cells (H.setIfInBounds k u) e I):=by
 simp only[World.setCell,Zv,Y1,h];rfl
def Az {p:Addr}(h:g≠p.block)(u:Value):(w.setCell p u).heap[g]?=w.heap[g]?:=ZV _ _ _ _ h
def Aq.keep {o o':Own}{w w':Wd}{pb:Nat}{p:Ae}(h:Aq o w pb p)(hk:∀g r,o g=some r->(r=.pool\/r=.slots\/r=.taken\/r=.free)->w'.heap[g]?=w.heap[g]?)(I:∀g r,o g=some r->o' g=some r):Aq o' w' pb p:=by
 obtain⟨vs,vt,vf,h1,h2,h3,O⟩:=h.blk
 exact⟨I _ _ h.own,⟨vs,vt,vf,(hk _ _ h.own (.inl rfl)).trans h1,h2.keep (λg H=>hk g _ H (.inr (.inl rfl))) (λg H=>I g _ H),h3.keep (λg H=>hk g _ H (.inr (.inr (.inl rfl)))) (λg H=>I g _ H),
  O.keep (λg H=>hk g _ H (.inr (.inr (.inr rfl)))) (λg H=>I g _ H)⟩,h.len,h.room,h.top,h.zero,h.pos,h.id,h.many,h.nodup,h.free,h.cnt⟩
def RowR.drew {o:Own}{w:Wd}{r:Role}{e:TypeId}{size:Nat}{v:Value}{n:Nat}{xs:List Value}(h:RowR o w r e size v n xs):RowR o w.drew r e size v n xs:=⟨h.len,h.ex⟩
def Chg.drew {R:Role->Prop}{o o':Own}{w w':Wd}(h:Chg R o o' w w'):Chg R o o' w w'.drew:=⟨h.os,h.tape,h.output,h.size,h.block,h.ext,h.new⟩
def Aq.drew {o:Own}{w:Wd}{pb:Nat}{p:Ae}(h:Aq o w pb p):Aq o w.drew pb p:=h.keep (λ_ _ _ _=>rfl) (λ_ _ h=>h)
def Aq.chg {o:Own}(h:Aq o w pb p)(I:Chg R o o' w w')(H:Ac o w)(h1:¬ R .pool)(h2:¬ R .slots)(h3:¬ R .taken)(X:¬ R .free):Aq o' w' pb p:=
 h.keep (λg r U O=>I.same H U (by rcases O with rfl|rfl|rfl|rfl<;>assumption)) I.ext
def Aq.below {o:Own}(h:Aq o w pb p)(hb:Bw w w')(H:Ac o w):Aq o w' pb p:=
 h.keep (λg r I _=>hb.block g (H g r I)) (λ_ _ h=>h)
def Aq.cells {o:Own}(h:Aq o w pb p):∃vs vt vf,w.cell? (Av pb)=some (Iv p.room)/\w.cell? (Aw pb 1)=some vs/\w.cell? (Aw pb 2)=some vt/\w.cell? (Aw pb 3)=some vf /\
 w.cell? (Aw pb 4)=some (Iv p.many)/\RowR o w .slots 203 5 vs p.at_.length (p.at_.flatMap rnV)/\RowR o w .taken 4 1 vt p.taken.length (p.taken.map Value.bool) /\
 RowR o w .free 3 1 vf p.free.length (p.free.map nat64):=by
 obtain⟨vs,vt,vf,h1,h2,h3,H⟩:=h.blk;exact⟨vs,vt,vf,by rw[Xw w pb 0 _ _ _ h1];rfl,by rw[Xw w pb 1 _ _ _ h1];rfl,by rw[Xw w pb 2 _ _ _ h1];rfl,by rw[Xw w pb 3 _ _ _ h1];rfl,by rw[Xw w pb 4 _ _ _ h1];rfl,h2,h3,H⟩
def Aq.frozen {o:Own}{w:Wd}{pb:Nat}{p:Ae}(h:Aq o w pb p)(k:Nat):w.frozen? (Aw pb k)=false:=by
 obtain⟨vs,vt,vf,h1,_⟩:=h.blk;simp[World.frozen?,h1]
def Aq.tk_lt {o:Own}(h:Aq o w pb p)(hi:p.tk i=true):0<i/\i<p.at_.length:=by
 constructor
 ·rcases ZC i with rfl|h0
  . rw[h.zero]at hi;cases hi
  . exact h0
 ·rcases X9 i p.at_.length with H|H
  . exact H
  . rw[<-h.len]at H;simp[Ae.tk,List.getD,XC H]at hi
def Aq.flag {o:Own}{cap m:Nat}(h:RowR o w .taken 4 1 (.slice (some (Av g)) m cap) p.taken.length (p.taken.map Value.bool))(hk:k<p.taken.length):w.cell? (Aw g k)=some (.bool (p.tk k)):=by
 rw[h.cell k (by simpa using hk)];simp[Ae.tk,List.getD,hk]
def Aq.node {o:Own}{cap m:Nat}(h:RowR o w .slots 203 5 (.slice (some (Av g)) m cap) p.at_.length (p.at_.flatMap rnV))(hk:k<p.at_.length):
 w.cell? (Aw g (k*5))=some (Iv (p.nd k).id)/\w.cell? (Aw g (k*5+1))=some (Iv (p.nd k).v)/\w.cell? (Aw g (k*5+2))=some (Iv (p.nd k).lo) /\
 w.cell? (Aw g (k*5+3))=some (Iv (p.nd k).hi)/\w.cell? (Aw g (k*5+4))=some (Iv (p.nd k).refs):=by
 have hx:p.at_[k]?=some (p.nd k):=by simp[Ae.nd,List.getD,hk]
 have hl:(p.at_.flatMap rnV).length=p.at_.length*5:=Ch rnV 5 Gp _;have e:=λj (H:j<5)=>(h.cell (k*5+j) (by rw[hl];omega)).trans (Ef rnV 5 Gp p.at_ k j _ hx H)
 exact⟨e 0 (by omega),e 1 (by omega),e 2 (by omega),e 3 (by omega),e 4 (by omega)⟩
def P9 (o:Own)(pb:Nat)(p:Ae)(w:Wd)(h:Aq o w pb p):
 Cl 178 #[Pt pb] w (Sm (Iv p.many) w):=by
 obtain⟨vs,vt,vf,O,c1,c2,I,H,_⟩:=h.cells
 go_enter func178,ntmps178
 go_wp2
 go_ret;exact⟨rfl,rfl⟩
def PA (o:Own)(pb:Nat)(p:Ae)(w:Wd)(h:Aq o w pb p):
 Cl 177 #[Pt pb] w (Sm (Iv p.room) w):=by
 obtain⟨vs,vt,vf,O,c1,c2,I,H,_⟩:=h.cells
 go_enter func177,ntmps177
 go_wp2
 go_ret;exact⟨rfl,rfl⟩
def Gq (o:Own)(pb:Nat)(p:Ae)(i:Nat)(w:Wd)(h:Aq o w pb p):
 Cl 167 #[Pt pb,Iv i] w (Sm (.bool (p.tk i)) w):=by
 obtain⟨vs,vt,vf,Z,c1,c2,Y,X,hs,H,_⟩:=h.cells;have g1:=h.pos;obtain⟨gs,cs,rfl,_⟩:=hs.shape g1;obtain⟨gt,U,rfl,_⟩:=H.shape (by rw[h.len];exact g1);have g4:=h.top;have g3:=h.room;have g0:=h.len;rw[g0]at c2
 by_cases h0:0<i
 ·have g5:(0:Int)<i:=by omega
  by_cases h1:i<p.at_.length
  ·have g2:(i:Int)<p.at_.length:=by omega
   have O:=Aq.flag H (k:=i) (by omega);obtain⟨b,hb⟩:∃b,p.tk i=b:=⟨_,rfl⟩;rw[hb]at O;rw[hb];clear g0 hb H hs
   go_enter func167,ntmps167
   go_wp2
   go_ret;exact⟨rfl,rfl⟩
  ·have g2:¬ (i:Int)<p.at_.length:=by omega
   have I:Hq (p.tk i=false):=by
    show _=_
    cases e:p.tk i with
    | false=>rfl
    | true=>exact absurd (h.tk_lt e).2 h1
   clear g0 H hs
   go_enter func167,ntmps167
   go_wp2
   go_ret;exact⟨CJ I.o.symm,rfl⟩
 ·obtain rfl:i=0:=by omega
  have I:=Hd h.zero;clear g0 H hs
  go_enter func167,ntmps167
  go_wp2
  go_ret;exact⟨CJ I.o.symm,rfl⟩
abbrev aF:=@List.take_zero
abbrev YZ:=@List.drop_of_length_le
abbrev XK:=@List.take_of_length_le
def I4 {α:Type}(f:α->List Value)(s:Nat)(H:∀x,(f x).length=s):∀(l:List α) (k:Nat) (y:α),k<l.length->(l.set k y).flatMap f=(l.flatMap f).take (k*s)++f y++(l.flatMap f).drop (k*s+s)
 | [],k,y,h=>by simp at h
 | x::l,0,y,_=>by
   simp only[List.set_cons_zero,YY,Nat.zero_mul,aF,Yv,XO];rw[List.drop_append,YZ (l:=f x) (by simp[H]),H];simp
 | x::l,k+1,y,h=>by
   simp only[List.set_cons_succ,YY];rw[I4 f s H l k y (by simpa using h),show(k+1)*s=s+k*s by rw[Y8];omega];rw[List.take_append,H,XK (l:=f x) (by rw[H];omega),show s+k*s-s=k*s by omega];rw[List.drop_append,H,YZ (l:=f x) (by rw[H];omega),show s+k*s+s-s=k*s+s by omega];simp[XF]
abbrev Yb:=@List.getElem?_set
abbrev Y2:=@List.length_nil
abbrev Zu:=@List.getElem?_drop
def PB (xs:List Value)(k:Nat)(a b c d e:Value)(h:k+5<=xs.length):((((xs.set k a).set (k+1) b).set (k+2) c).set (k+3) d).set (k+4) e=xs.take k++[a,b,c,d,e]++xs.drop (k+5):=by
 apply List.ext_getElem?;intro i;simp only[Yb,XE]
 by_cases h0:i<k
 . rw[XN (by simp;omega),XN (by simp;omega),Zt,Xx h0];rw[Xu (by omega),Xu (by omega),Xu (by omega),Xu (by omega),Xu (by omega)]
 ·by_cases h1:i<k+5
  ·rw[XN (by simp;omega),Ya (by simp;omega)];have hl:(xs.take k).length=k:=by simp;omega
   rw[hl];have:i=k\/i=k+1\/i=k+2\/i=k+3\/i=k+4:=by omega
   rcases this with rfl|rfl|rfl|rfl|rfl
   . simp;omega
   . simp;omega
   . simp;omega
   . simp;omega
   . simp;omega
  . rw[Xu (by omega),Xu (by omega),Xu (by omega),Xu (by omega),Xu (by omega)];rw[Ya (by simp;omega)];simp only[X4,YB,XL,Y2,Zu];congr 1;omega
def set5 (w:Wd)(g k:Nat)(n:RN):Wd:=
 ((((w.setCell (Aw g (k*5)) (Iv n.id)).setCell (Aw g (k*5+1)) (Iv n.v)).setCell (Aw g (k*5+2)) (Iv n.lo)).setCell (Aw g (k*5+3)) (Iv n.hi)).setCell (Aw g (k*5+4)) (Iv n.refs)
def Gr {o:Own}{cap m:Nat}{l:List RN}(h:RowR o w .slots 203 5 (.slice (some (Av g)) m cap) l.length (l.flatMap rnV))(hk:k<l.length)(n:RN):
 RowR o (set5 w g k n) .slots 203 5 (.slice (some (Av g)) m cap) (l.set k n).length ((l.set k n).flatMap rnV):=by
 have H:=((((h.stored (k*5) (Iv n.id)).stored (k*5+1) (Iv n.v)).stored (k*5+2) (Iv n.lo)).stored (k*5+3) (Iv n.hi)).stored (k*5+4) (Iv n.refs);rw[XE];have hl:(l.flatMap rnV).length=l.length*5:=Ch rnV 5 Gp _;rw[PB _ _ _ _ _ _ _ (by rw[hl];omega)]at H;rw[I4 rnV 5 Gp l k n hk];exact H
def Gt {o:Own}{n:RN}(h:Chg R o o' w0 w)(H:o' g=some .slots)(I:R .slots):Chg R o o' w0 (set5 w g k n):=
 ((((h.setCell (p:=(Aw g (k*5))) H I _).setCell (p:=(Aw g (k*5+1))) H I _).setCell (p:=(Aw g (k*5+2))) H I _).setCell (p:=(Aw g (k*5+3))) H I _).setCell (p:=(Aw g (k*5+4))) H I _
def BK {n:RN}(hb:b≠g):(set5 w g k n).heap[b]?=w.heap[b]?:=by
 unfold set5;rw[Az hb,Az hb,Az hb,Az hb,Az hb]
def Dw {n:RN}(hk:k<p.at_.length)(i:Nat):({ p with at_:=p.at_.set k n }:Ae).nd i=if i=k then n else p.nd i:=by
 unfold Ae.nd;dsimp only
 by_cases e:i=k
 . subst e;simp[List.getD,hk]
 . simp only[List.getD,Yb,Xu (Ye e),Xu e]
def Ae.setNd (p:Ae)(k:Nat)(n:RN):Ae:={ p with at_:=p.at_.set k n }
def Ae.setNd_get {n:RN}(hk:k<p.at_.length)(H:p.tk k=true)(i:Nat):(p.setNd k n).get i=if i=k then some n else p.get i:=by
 unfold Ae.get;have:(p.setNd k n).tk i=p.tk i:=rfl;rw[this,show(p.setNd k n).nd i=if i=k then n else p.nd i from Dw hk i]
 by_cases e:i=k
 . subst e;simp[H]
 . simp[e]
def Aq.setNd {o:Own}{w:Wd}{pb g cap m:Nat}{p:Ae}(h:Aq o w pb p)(X:Ac o w){vs:Value}(H:w.cell? (Aw pb 1)=some vs)(I:vs=.slice (some (Av g)) m cap){k:Nat}{n:RN}(hk:p.tk k=true)(U:n.id=k):
 Aq o (set5 w g k n) pb (p.setNd k n):=by
 subst I;obtain⟨vs,vt,vf,h1,h2,h3,Z⟩:=h.blk;have e1:vs=.slice (some (Av g)) m cap:=by
  rw[Xw w pb 1 _ _ _ h1]at H;simpa using H
 subst e1;have Y:=h2.owner;obtain⟨_,g1⟩:=h.tk_lt hk;have g0:∀{b r},o b=some r->r ≠ .slots->b≠g:=λhb O e=>by subst e;rw[Y]at hb;cases hb;exact O rfl
 refine⟨h.own,⟨_,vt,vf,(BK (g0 h.own (by simp))).trans h1,Gr h2 g1 n,h3.keep (λb hb=>BK (g0 hb (by simp))) (λ_ h=>h),Z.keep (λb hb=>BK (g0 hb (by simp))) (λ_ h=>h)⟩,?_,h.room,?_,h.zero,?_,?_,?_,h.nodup,?_,?_⟩
 . simp only[Ae.setNd,XE];exact h.len
 . simp only[Ae.setNd,XE];exact h.top
 . simp only[Ae.setNd,XE];exact h.pos
 ·intro i hi;rw[show(p.setNd k n).nd i=if i=k then n else p.nd i from Dw g1 i];split
  . rename_i e;rw[e];exact U
  . exact h.id i hi
 . simp only[Ae.setNd,XE];exact h.many
 . simp only[Ae.setNd,XE];exact h.free
 . simp only[Ae.setNd,XE];exact h.cnt
abbrev X2:=@bodyPost_ret
def KO (o:Own)(pb:Nat)(p:Ae)(i:Nat)(w:Wd)(h:Aq o w pb p)(H:Ac o w)(hi:p.tk i=true):
 Cl 137 #[Pt pb,Iv i] w (Bl (.tuple #[Ao (p.nd i),.bool true]) w):=by
 obtain⟨vs,vt,vf,b,c1,c2,a,Z,hs,I,_⟩:=h.cells;have g0:=h.pos;obtain⟨gs,cs,rfl,_⟩:=hs.shape g0;have g2:=h.top;have g1:=h.room;obtain⟨h0,h1⟩:=h.tk_lt hi;have g3:(i:Int)<p.at_.length:=by omega
 obtain⟨d0,d1,d2,d3,d4⟩:=Aq.node hs (k:=i) h1;obtain⟨n,hn⟩:∃n,p.nd i=n:=⟨_,rfl⟩;rw[hn]at d0 d1 d2 d3 d4;rw[hn];have U:=Hd (h.below (Ag w (.cells #[Iv 0,Iv 0,Iv 0,Iv 0,Iv 0] 203)) H);have O:=Hd hi;have Y:pb<w.heap.size:=Ad c1;have X:gs<w.heap.size:=Ad d0;clear hn hs I h hi H
 go_enter func137,ntmps137
 go_wp2_with fail;refine(Gq o pb p i _ U.o).mono ?_;rintro x w' ⟨rfl,rfl⟩;rw[O.o];go_wp2_with fail;exact X2 (v:=.tuple #[Ao n,.bool true]) (by simp[results,Tryz.results137,go_sem,Ao]) rfl ⟨rfl,Ag w _⟩
def PC (o:Own)(pb:Nat)(p:Ae)(i:Nat)(w:Wd)(h:Aq o w pb p)(H:Ac o w)(hi:p.tk i=false):
 Cl 137 #[Pt pb,Iv i] w (Bl (.tuple #[Ao rn0,.bool false]) w):=by
 have O:=Hd (h.below (Ag w (.cells #[Iv 0,Iv 0,Iv 0,Iv 0,Iv 0] 203)) H);have I:=Hd hi;clear h hi H
 go_enter func137,ntmps137
 go_wp2_with fail;refine(Gq o pb p i _ O.o).mono ?_;rintro x w' ⟨rfl,rfl⟩;rw[I.o];go_wp2_with fail;exact X2 (v:=.tuple #[Ao rn0,.bool false]) (by simp[results,Tryz.results137,go_sem,Ao,rn0]) rfl ⟨rfl,Ag w _⟩
def I5 (o:Own)(pb:Nat)(p:Ae)(n:RN)(w:Wd)(h:Aq o w pb p)(H:Ac o w)(hi:p.tk n.id=true):
 Cl 149 #[Pt pb,Ao n] w λx w'=>x=.returned (Iv 0)/\Aq o w' pb (p.setNd n.id n)/\Chg (· = .slots) o o w w'/\Ac o w':=by
 obtain⟨vs,vt,vf,f,c1,c2,e,d,hs,Z,_⟩:=h.cells;have g4:=h.pos;obtain⟨gs,cs,rfl,g2,_⟩:=hs.shape g4;have g6:=h.top;have g5:=h.room;obtain⟨h0,h1⟩:=h.tk_lt hi;have g7:(n.id:Int)<p.at_.length:=by omega
 obtain⟨W,I⟩:=Ex (w.alloc (.cells #[Iv n.id,Iv n.v,Iv n.lo,Iv n.hi,Iv n.refs] 203));have g0:Bw w W:=by rw[I];exact Ag w _
 have g3:=h.below g0 H;have g1:Ac o W:=H.mono g0.size;obtain⟨b,hb⟩:=Ex w.heap.size;have t:W.cell? (Av b)=some (Iv n.id):=by rw[I,hb];simp
 have b1:W.cell? (Aw b 1)=some (Iv n.v):=by rw[I,hb];simp
 have b2:W.cell? (Aw b 2)=some (Iv n.lo):=by rw[I,hb];simp
 have s:W.cell? (Aw b 3)=some (Iv n.hi):=by rw[I,hb];simp
 have r:W.cell? (Aw b 4)=some (Iv n.refs):=by rw[I,hb];simp
 have e1:W.cell? (Aw pb 1)=some (.slice (some (Av gs)) p.at_.length cs):=Cq g0 c1;have a:=Aq.node (hs.keep (λg O=>g0.block g (H g _ O)) (λ_ h=>h)) (k:=n.id) h1;obtain⟨d0,d1,d2,d3,d4⟩:=a;have f0:∀k,W.frozen? (Aw gs k)=false:=(hs.keep (λg O=>g0.block g (H g _ O)) (λ_ h=>h)).frozen;have m:Hq (Chg (· = .slots) o o w W):=by show Chg _ _ _ _ _;rw[I];exact(Chg.refl _ _ _).alloc _
 have HP:=Hd g3;have U:=Hd g1;have X:=Hd hi;have j:=Hd g2;have l:=Hd e1;have i:=Hd I;have q:=Hd hb;clear hs Z h hi H g2 f c1 c2 e d g0 g3 g1 I hb;unfold Ao
 go_enter func149,ntmps149
 go_wp2_with (fail);rw[<-i.o,<-q.o];go_wp2_with (fail);refine(Gq o pb p n.id _ HP.o).mono ?_;rintro x w' ⟨rfl,rfl⟩;rw[X.o];go_wp2_with fail;refine AJ (λw'=>w'=W.drew) true 8 [(0,false),(1,false),(2,false),(3,false),(4,false),(5,false),(6,false),(7,false),(8,true)] (by kernel_rfl) (by kernel_rfl) rfl ?_;simp only[planned,AI]
 iterate 8
  refine A0 rfl ?_;apply Exists.intro;refine⟨λw' Y=>?_,?_⟩
  . subst Y;go_simp;rfl
  simp only[Ab]
 refine DE rfl (λK c=>?_);unfold Oper.wp;go_simp;refine c _ _ (C2 ?_);go_wp2;go_ret;exact⟨rfl,(HP.o.setNd U.o l.o rfl X.o rfl).drew,(Gt m.o j.o rfl).drew,U.o.mono (by simp[set5,World.setCell])⟩
def Ae.reuse (p:Ae)(id:Nat)(n:RN):Ae:={ p with at_:=p.at_.set id { n with id:=id },taken:=p.taken.set id true,free:=p.free.dropLast,many:=p.many+1 }
def Ae.fresh (p:Ae)(n:RN):Ae:={ p with at_:=p.at_++[{ n with id:=p.at_.length }],taken:=p.taken++[true],many:=p.many+1 }
def Ft {l:List Bool}{b:Bool}(hk:k<l.length)(i:Nat):(l.set k b).getD i false=if i=k then b else l.getD i false:=by
 by_cases e:i=k
 . subst e;simp[List.getD,hk]
 . simp only[List.getD,Yb,Xu (Ye e),Xu e]
theorem Ae.reuse_get {n:RN}(h1:id<p.at_.length)(h2:id<p.taken.length)(i:Nat):(p.reuse id n).get i=if i=id then some { n with id:=id }else p.get i:=by
 unfold Ae.get;have e1:(p.reuse id n).tk i=if i=id then true else p.tk i:=Ft h2 i
 have e2:(p.reuse id n).nd i=if i=id then { n with id:=id }else p.nd i:=Dw h1 i
 rw[e1,e2]
 by_cases e:i=id<;>simp[e]
theorem Ae.fresh_get {n:RN}(hl:p.taken.length=p.at_.length)(i:Nat):(p.fresh n).get i=if i=p.at_.length then some { n with id:=p.at_.length }else p.get i:=by
 unfold Ae.get Ae.tk Ae.nd Ae.fresh;dsimp only;rcases Zx i p.at_.length with h|h|h
 ·have g0:i≠p.at_.length:=by omega
  simp[List.getD,XN,h,hl,g0]
 . subst h;simp[List.getD,Ya,hl]
 ·have g0:i≠p.at_.length:=by omega
  have h1:p.at_.length<=i:=by omega
  have h2:p.taken.length<=i:=by omega
  have h3:i-p.at_.length≠0:=by omega
  simp[List.getD,Ya,h1,hl,g0,XC,h3]
def Aq.freeCell {o:Own}{cap m:Nat}(h:RowR o w .free 3 1 (.slice (some (Av g)) m cap) p.free.length (p.free.map nat64))(hk:p.free[k]?=some x):w.cell? (Aw g k)=some (Iv x):=by
 have hl:k<p.free.length:=by
  rcases X9 k p.free.length with H|H
  . exact H
  . rw[XC H]at hk;cases hk
 rw[h.cell k (by simpa using hl),Yq,hk];rfl
theorem Gu {fs:List Nat}:(fs++[id]).dropLast=fs:=by simp
theorem Ae.reuse_tk {n:RN}(h:id<p.taken.length)(i:Nat):(p.reuse id n).tk i=if i=id then true else p.tk i:=Ft h i
abbrev XG:=@List.map_append
abbrev Yl:=@List.nodup_append
theorem Aq.toReuse {o:Own}{gs gt cs Y d:Nat}(h:Aq o w pb p)(X:Ac o w){fs:List Nat}{n:RN}(O:p.free=fs++[id])
 (c1:w.cell? (Aw pb 1)=some (.slice (some (Av gs)) p.at_.length cs)) (c2:w.cell? (Aw pb 2)=some (.slice (some (Av gt)) p.at_.length Y)) (l:w.cell? (Aw pb 3)=some (.slice (some (Av gf)) (fs.length+1) d))
 (s:fs.length+1<=d) (c:Below w.heap.size (w.setCell (Aw pb 3) (.slice (some (Av gf)) fs.length fs.length)) W):
 Aq o (((set5 W gs id { n with id:=id }).setCell (Aw gt id) (.bool true)).setCell (Aw pb 4) (Iv ((p.many+1:Nat):Int))) pb (p.reuse id n) /\
 Chg (λr=>r=.pool\/r=.slots\/r=.taken\/r=.free) o o w (((set5 W gs id { n with id:=id }).setCell (Aw gt id) (.bool true)).setCell (Aw pb 4) (Iv ((p.many+1:Nat):Int))):=by
 obtain⟨vs,vt,vf,h1,h2,h3,k⟩:=h.blk;have e1:vs=.slice (some (Av gs)) p.at_.length cs:=by rw[Xw w pb 1 _ _ _ h1]at c1;simpa using c1
 have e2:vt=.slice (some (Av gt)) p.at_.length Y:=by rw[Xw w pb 2 _ _ _ h1]at c2;simpa using c2
 have v:vf=.slice (some (Av gf)) (fs.length+1) d:=by rw[Xw w pb 3 _ _ _ h1]at l;simpa using l
 subst e1 e2 v;have os:=h2.owner;have Z:=h3.owner;have of:=k.owner;have ne:∀{a b r q},o a=some r->o b=some q->r≠q->a≠b:=λu hb m e=>by subst e;rw[u]at hb;cases hb;exact m rfl
 obtain⟨i0,I,i2⟩:=h.free id (by rw[O];simp);have U:∀g r,o g=some r->g≠pb->W.heap[g]?=w.heap[g]?:=λg r H g0=>(c.block g (X g r H)).trans (Az g0 _)
 have g3:W.heap[pb]?=some (.cells #[Iv p.room,.slice (some (Av gs)) p.at_.length cs,.slice (some (Av gt)) p.at_.length Y,.slice (some (Av gf)) fs.length fs.length,Iv p.many] 219 (0,0)):=
  (c.block pb (X pb _ h.own)).trans (A2 h1 _)
 have g2:RowR o W .slots 203 5 (.slice (some (Av gs)) p.at_.length cs) p.at_.length (p.at_.flatMap rnV):=h2.keep (λg H=>U g _ H (ne H h.own (by simp))) (λ_ h=>h);have g1:RowR o W .taken 4 1 (.slice (some (Av gt)) p.at_.length Y) p.taken.length (p.taken.map Value.bool):=h3.keep (λg H=>U g _ H (ne H h.own (by simp))) (λ_ h=>h);have g4:RowR o W .free 3 1 (.slice (some (Av gf)) fs.length fs.length) fs.length (fs.map nat64):=by
  have:=(k.keep (w':=W) (o':=o) (λg H=>U g _ H (ne H h.own (by simp))) (λ_ h=>h)).shrink (m':=fs.length) (cap':=fs.length) (by rw[O];simp) (by omega) (Xs _);rw[O,XG,Nat.mul_one,List.take_left' (by simp)]at this;exact this
 refine⟨⟨h.own,⟨.slice (some (Av gs)) p.at_.length cs,.slice (some (Av gt)) p.at_.length Y,.slice (some (Av gf)) fs.length fs.length,?_,?_,?_,?_⟩,?_,h.room,?_,?_,?_,?_,?_,?_,?_,?_⟩,?_⟩
 . have e:((set5 W gs id { n with id:=id }).setCell (Aw gt id) (.bool true)).heap[pb]?=W.heap[pb]?:=(Az (ne h.own Z (by simp)) _).trans (BK (ne h.own os (by simp)));exact A2 (e.trans g3) _
 . exact((Gr g2 I _).setCell_other (p:=Aw gt id) (by rw[Z];simp) _).setCell_other (p:=Aw pb 4) (by rw[h.own];simp) _
 . have f:=(g1.keep (w':=set5 W gs id { n with id:=id }) (o':=o) (λg H=>BK (ne H os (by simp))) (λ_ h=>h)).stored id (.bool true);have a2:=f.setCell_other (p:=Aw pb 4) (by rw[h.own];simp) (Iv ((p.many+1:Nat):Int));simp only[Ae.reuse,XE,Zp];exact a2
 . have f:=((g4.keep (w':=set5 W gs id { n with id:=id }) (o':=o) (λg H=>BK (ne H os (by simp))) (λ_ h=>h)).setCell_other (p:=Aw gt id) (by rw[Z];simp) (.bool true)).setCell_other (p:=Aw pb 4) (by rw[h.own];simp) (Iv ((p.many+1:Nat):Int));simp only[Ae.reuse,O,Gu];exact f
 . simp only[Ae.reuse,XE];exact h.len
 . simp only[Ae.reuse,XE];exact h.top
 . rw[Ae.reuse_tk (by rw[h.len];exact I),Xu (by omega)];exact h.zero
 . simp only[Ae.reuse,XE];exact h.pos
 ·intro i hi;rw[Ae.reuse_tk (by rw[h.len];exact I)]at hi;rw[show(p.reuse id n).nd i=if i=id then { n with id:=id }else p.nd i from Dw I i];split
  . rename_i e;exact e.symm
  . rename_i e;rw[Xu e]at hi;exact h.id i hi
 . have:=h.many;simp only[Ae.reuse,XE,O,Gu]at *;simp at this;omega
 . have:=h.nodup;simp only[Ae.reuse,O,Gu]at *;exact(Yl.1 this).1
 ·intro i hi;have j:=h.nodup;simp only[Ae.reuse,O,Gu]at hi j;have g0:i≠id:=by
   rintro rfl;exact(Yl.1 j).2.2 i hi i (by simp) rfl
  have:=h.free i (by rw[O];simp[hi]);rw[Ae.reuse_tk (by rw[h.len];exact I),Xu g0];simp only[Ae.reuse,XE];exact this
 ·have t:=h.cnt;have:Ah (p.reuse id n).at_.length (λi=>if(p.reuse id n).tk i=true then 1 else 0)=Ah p.at_.length (λi=>if p.tk i=true then 1 else 0)+((if(p.reuse id n).tk id=true then 1 else 0)-(if p.tk id=true then 1 else 0)):=by
   have hl:(p.reuse id n).at_.length=p.at_.length:=by simp[Ae.reuse]
   rw[hl];refine Dv (λi hi=>?_) _ I;rw[Ae.reuse_tk (by rw[h.len];exact I),Xu hi]
  rw[this,Ae.reuse_tk (by rw[h.len];exact I),Xx rfl,i2,<-t];simp[Ae.reuse]
 ·have x:Chg (λr=>r=.pool\/r=.slots\/r=.taken\/r=.free) o o w W:=
   ((Chg.refl _ o w).setCell (p:=Aw pb 3) h.own (.inl rfl) _).trans (Chg.of_below (by simpa [World.setCell,Bw]using c) _ _)
  exact((Gt x os (.inr (.inl rfl))).setCell (p:=Aw gt id) Z (.inr (.inr (.inl rfl))) _).setCell (p:=Aw pb 4) h.own (.inl rfl) _
abbrev YU:=@World.frozen?_setCell
theorem PD (o:Own)(pb:Nat)(p:Ae)(n:RN)(fs:List Nat)(id:Nat)(w:Wd)(h:Aq o w pb p)(j:Ac o w)(Z:p.free=fs++[id]):
 Cl 172 #[Pt pb,Ao n] w λx w'=>x=.returned (.tuple #[Iv id,Iv 0])/\Aq o w' pb (p.reuse id n)/\Chg (λr=>r=.pool\/r=.slots\/r=.taken\/r=.free) o o w w'/\Ac o w':=by
 obtain⟨vs,vt,vf,L,c1,c2,z,J,hs,q,y⟩:=h.cells;have g9:=h.pos;obtain⟨gs,cs,rfl,g6,_⟩:=hs.shape g9;obtain⟨gt,G,rfl,g4,_⟩:=q.shape (by rw[h.len];exact g9);obtain⟨gf,cf,rfl,g7,ge,gi⟩:=y.shape (by rw[Z];simp);have gl:=h.top;have gk:=h.room;have gb:=h.many;have gg:=h.free id (by rw[Z];simp);obtain⟨i0,E,i2⟩:=gg;have F:p.free.length=fs.length+1:=by rw[Z];simp
 have d:=Aq.freeCell y (k:=fs.length) (x:=id) (by rw[Z];simp);have f3:=h.frozen 3;have f4:=h.frozen 4;have m:=hs.frozen;have l:=q.frozen id;have n0:=Aq.node hs (k:=id) E;obtain⟨n0,D,C,B,A⟩:=n0;have t0:=Aq.flag q (k:=id) (by rw[h.len];exact E);rw[F]at z ge;rw[h.len]at c2;have X:pb<w.heap.size:=Ad L;have O:gs<w.heap.size:=Ad n0;have i:gt<w.heap.size:=Ad t0;have lgf:gf<w.heap.size:=Ad d;have i1':(id:Int)<p.at_.length:=by omega
 have I:pb≠gs:=by rintro rfl;rw[h.own]at g6;cases g6
 have f:pb≠gt:=by rintro rfl;rw[h.own]at g4;cases g4
 have V:pb≠gf:=by rintro rfl;rw[h.own]at g7;cases g7
 have T:gs≠gt:=by rintro rfl;rw[g6]at g4;cases g4
 have Q:=Hd h;have N:=Hd j;have HF:=Hd Z;unfold maxLen at gi;clear h j Z hs q y F gb i2 g6 g4 g7;unfold Ao
 go_enter func172,ntmps172
 go_wp2_with (fail);obtain⟨W1,g8⟩:=Ex ((w.setCell (Aw pb 3) (.slice (some (Av gf)) fs.length fs.length)).alloc (.cells #[Iv id,Iv n.v,Iv n.lo,Iv n.hi,Iv n.refs] 203));obtain⟨b,hb⟩:=Ex w.heap.size;rw[<-g8,<-hb];have g5:Below w.heap.size (w.setCell (Aw pb 3) (.slice (some (Av gf)) fs.length fs.length)) W1:=by rw[g8];exact(X7 _ _).alloc (by simp[World.setCell]) _
 have g3:=λW (t:Below w.heap.size W1 W)=>Q.o.toReuse N.o HF.o (n:=n) (W:=W) c1 c2 z ge (g5.trans t)
 have c:W1.heap[b]?=some (.cells #[Iv id,Iv n.v,Iv n.lo,Iv n.hi,Iv n.refs] 203 (0,0)):=by
  rw[g8,hb];have:=Xv (w.setCell (Aw pb 3) (.slice (some (Av gf)) fs.length fs.length)) (.cells #[Iv id,Iv n.v,Iv n.lo,Iv n.hi,Iv n.refs] 203);rw[show(w.setCell (Aw pb 3) (.slice (some (Av gf)) fs.length fs.length)).heap.size=w.heap.size by simp[World.setCell]]at this;exact this
 have b0:W1.cell? (Av b)=some (Iv id):=by rw[Xw W1 b 0 _ _ _ c];rfl
 have b1:W1.cell? (Aw b 1)=some (Iv n.v):=by rw[Xw W1 b 1 _ _ _ c];rfl
 have b2:W1.cell? (Aw b 2)=some (Iv n.lo):=by rw[Xw W1 b 2 _ _ _ c];rfl
 have b3:W1.cell? (Aw b 3)=some (Iv n.hi):=by rw[Xw W1 b 3 _ _ _ c];rfl
 have b4:W1.cell? (Aw b 4)=some (Iv n.refs):=by rw[Xw W1 b 4 _ _ _ c];rfl
 have H:∀g k,g<w.heap.size->(g≠pb\/k≠3)->W1.cell? (Aw g k)=w.cell? (Aw g k):=by
  intro g k Y gc;refine(g5.cell (p:=Aw g k) Y).trans ?_;exact World.cell?_setCell_other w _ _ _ (by intro e;cases e;simp at gc)
 have oldf:∀g k,g<w.heap.size->g≠pb->W1.frozen? (Aw g k)=w.frozen? (Aw g k):=by
  intro g k Y gc;refine(g5.frozen (p:=Aw g k) Y).trans ?_;exact YU _ _ _ _
 have S:=(H pb 1 X (.inr (by omega))).trans c1;have R:=(H pb 2 X (.inr (by omega))).trans c2;have p4:=(H pb 4 X (.inr (by omega))).trans J;have q0:=(H gs (id*5) O (.inl (Ye I))).trans n0;have q1:=(H gs (id*5+1) O (.inl (Ye I))).trans D;have q2:=(H gs (id*5+2) O (.inl (Ye I))).trans C;have q3:=(H gs (id*5+3) O (.inl (Ye I))).trans B;have q4:=(H gs (id*5+4) O (.inl (Ye I))).trans A;have qt:=(H gt id i (.inl (Ye f))).trans t0;have g0:∀k,W1.frozen? (Aw gs k)=false:=λk=>(oldf gs k O (Ye I)).trans (m k)
 have g1:W1.frozen? (Aw gt id)=false:=(oldf gt id i (Ye f)).trans l;have g2:W1.frozen? (Aw pb 4)=false:=by
  refine(g5.frozen (p:=Aw pb 4) X).trans ?_;rw[YU];exact f4
 have U:b≠gs:=by omega
 have M:Hq (∀W:Wd,(∀g,g≠gs->W.heap[g]?=W1.heap[g]?)->W.cell? (Aw pb 1)=some (.slice (some (Av gs)) p.at_.length cs)/\W.cell? (Aw pb 2)=some (.slice (some (Av gt)) p.at_.length G) /\
  W.cell? (Av b)=some (Iv id)/\W.cell? (Aw b 1)=some (Iv n.v)/\W.cell? (Aw b 2)=some (Iv n.lo)/\W.cell? (Aw b 3)=some (Iv n.hi)/\W.cell? (Aw b 4)=some (Iv n.refs)):=by
  show ∀_,_
  intro W t;have a:=λg k (Y:g≠gs)=>XR (w:=W1) (w':=W) (a:=Aw g k) (t g Y)
  exact⟨(a pb 1 I).trans S,(a pb 2 I).trans R,(a b 0 U).trans b0,(a b 1 U).trans b1,(a b 2 U).trans b2,(a b 3 U).trans b3,(a b 4 U).trans b4⟩
 have gh:=Hd g3;have gj:Hq (Ac o W1):=by show Ac _ _;exact N.o.mono (by have:=g5.size;simpa [World.setCell]using this)
 have gm:p.many<1048577:=by have:=Q.o.many;omega
 have gn:(p.many:Int)+1<9223372036854775807:=by omega
 clear g3 H oldf g5 g8 hb c n0 D C B A t0 L c1 c2 z J d f3 f4 m l
 refine AJ (λW:Wd=>W.cell? (Aw pb 1)=some (.slice (some (Av gs)) p.at_.length cs)/\W.cell? (Aw pb 2)=some (.slice (some (Av gt)) p.at_.length G) /\
  W.cell? (Av b)=some (Iv id)/\W.cell? (Aw b 1)=some (Iv n.v)/\W.cell? (Aw b 2)=some (Iv n.lo)/\W.cell? (Aw b 3)=some (Iv n.hi)/\W.cell? (Aw b 4)=some (Iv n.refs)) true 14
  [(0,false),(1,false),(2,false),(3,false),(4,false),(5,false),(6,false),(7,false),(8,false),(9,false),(10,false),(11,false),(12,true),(13,false),(14,true)] (by kernel_rfl) (by kernel_rfl) (M.o _ (λ_ _=>rfl)) ?_
 simp only[planned,AI]
 iterate 12
  refine A0 rfl ?_;apply Exists.intro;refine⟨λw' s=>?_,?_⟩
  . obtain⟨h1,h2,h3,h4,h5,h6,h7⟩:=s;go_simp;rfl
  simp only[Ab]
 refine Fq rfl (λK u=>?_);unfold Oper.wp;go_simp;refine u _ _ (M.o _ (λg Y=>BK (w:=W1) (n:=⟨id,n.v,n.lo,n.hi,n.refs⟩) Y)) ?_
 iterate 1
  refine A0 rfl ?_;apply Exists.intro;refine⟨λw' s=>?_,?_⟩
  . obtain⟨h1,h2,h3,h4,h5,h6,h7⟩:=s;go_simp;rfl
  simp only[Ab]
 refine DE rfl (λK u=>?_);unfold Oper.wp;go_simp;refine u _ _ (C2 ?_);go_wp2
 go_ret2
 have g3:=gh.o W1 (X7 _ _);rw[show((p.many+1:Nat):Int)=(p.many:Int)+1 by omega]at g3;exact⟨rfl,g3.1.drew,g3.2.drew,gj.o.mono (by simp[World.setCell])⟩
def PE (o:Own)(pb:Nat)(p:Ae)(n:RN)(w:Wd)(h:Aq o w pb p)(I:p.free=[])(H:p.room<p.at_.length):
 Cl 172 #[Pt pb,Ao n] w (Bl (.tuple #[Iv 0,Iv 7]) w):=by
 obtain⟨vs,vt,vf,Y,c1,c2,X,a,hs,U,g0⟩:=h.cells;obtain⟨gs,cs,rfl,_⟩:=hs.shape h.pos;obtain⟨b,Z,rfl,_⟩:=g0.slice;rw[I]at X;have g1:(p.room:Int)<p.at_.length:=by omega
 have O:pb<w.heap.size:=Ad Y;have g3:=h.top;have g2:=h.room;clear hs U g0 h I;unfold Ao
 go_enter func172,ntmps172
 go_wp2_with (fail)
 go_quiet (fail)
 go_wp2_with (fail)
 go_ret2
 exact⟨rfl,by first|exact Ag w _|exact Gc w _ _⟩
def cells5 {a b c d e:Value}(h:w.heap[g]?=some (.cells #[a,b,c,d,e] T (0,0))):w.cell? (Av g)=some a/\w.cell? (Aw g 1)=some b/\w.cell? (Aw g 2)=some c/\w.cell? (Aw g 3)=some d/\w.cell? (Aw g 4)=some e/\(∀k,w.frozen? (Aw g k)=false):=
 ⟨by rw[Xw w g 0 _ _ _ h];rfl,by rw[Xw w g 1 _ _ _ h];rfl,by rw[Xw w g 2 _ _ _ h];rfl,by rw[Xw w g 3 _ _ _ h];rfl,by rw[Xw w g 4 _ _ _ h];rfl,λk=>by simp[World.frozen?,h]⟩
def Ac.none {o:Own}{w:Wd}(h:Ac o w){b:Nat}(hb:w.heap.size<=b):o b=Option.none:=by
 cases e:o b with
 | none=>rfl
 | some r=>have:=h b r e;omega
def RowR.below {o:Own}{r:Role}{e:TypeId}{size:Nat}(h:RowR o w r e size v n xs)(H:Ac o w)(hb:Bw w w'):RowR o w' r e size v n xs:=
 h.keep (λg I=>hb.block g (H g r I)) (λ_ h=>h)
def Gv:(prog.info? 203).map (λi=>(i.zero,i.size,i.bytes))=some (some (.agg #[Iv 0,Iv 0,Iv 0,Iv 0,Iv 0]),5,40):=by kernel_rfl
def I6:(prog.info? 4).map (λi=>(i.zero,i.size,i.bytes))=some (some (.bool false),1,1):=by kernel_rfl
abbrev Ze:=@List.length_singleton
theorem Aq.toFresh {o:Own}{gs gt cs Z:Nat}(h:Aq o w pb p){n:RN}(d:p.free=[])(c:p.at_.length<=p.room)(H:o' pb=some .pool)
 (X:W.heap[pb]?=some (.cells #[Iv p.room,.slice (some (Av gs)) (p.at_.length+1) cs,.slice (some (Av gt)) (p.at_.length+1) Z,vf,Iv p.many] 219 (0,0)))
 (h2:RowR o' W .slots 203 5 (.slice (some (Av gs)) (p.at_.length+1) cs) (p.at_.length+1) ((p.at_++[rn0]).flatMap rnV))
 (h3:RowR o' W .taken 4 1 (.slice (some (Av gt)) (p.at_.length+1) Z) (p.at_.length+1) ((p.taken++[false]).map Value.bool))
 (j:RowR o' W .free 3 1 vf p.free.length (p.free.map nat64)):
 Aq o' (((set5 W gs p.at_.length { n with id:=p.at_.length }).setCell (Aw gt p.at_.length) (.bool true)).setCell (Aw pb 4) (Iv ((p.many+1:Nat):Int))) pb (p.fresh n) /\
 Chg (λr=>r=.pool\/r=.slots\/r=.taken\/r=.free) o' o' W (((set5 W gs p.at_.length { n with id:=p.at_.length }).setCell (Aw gt p.at_.length) (.bool true)).setCell (Aw pb 4) (Iv ((p.many+1:Nat):Int))):=by
 have os:=h2.owner;have O:=h3.owner;have ne:∀{a b r q},o' a=some r->o' b=some q->r≠q->a≠b:=λf hb c e=>by subst e;rw[f]at hb;cases hb;exact c rfl
 have hl:p.taken.length=p.at_.length:=h.len;have g2:(p.at_++[rn0]).set p.at_.length { n with id:=p.at_.length }=p.at_++[{ n with id:=p.at_.length }]:=by
  rw[ZJ _ _ (Xs _)];simp
 have g0:∀i,(p.fresh n).tk i=(p.tk i||i == p.at_.length):=by
  intro i;unfold Ae.tk Ae.fresh;dsimp only;rcases Zx i p.taken.length with I|I|I
  ·have g1:i≠p.at_.length:=by omega
   simp[List.getD,XN,I,g1]
  . subst I;simp[List.getD,hl]
  ·have g1:i≠p.at_.length:=by omega
   have h1:i-p.taken.length≠0:=by omega
   have h0:p.taken.length<=i:=by omega
   simp[List.getD,Ya,h0,g1,h1]
 have g4:∀i,i≠p.at_.length->(p.fresh n).nd i=p.nd i:=by
  intro i hi;unfold Ae.nd Ae.fresh;dsimp only;rcases X9 i p.at_.length with I|I
  . simp[List.getD,XN,I]
  ·have h1:i-p.at_.length≠0:=by omega
   simp[List.getD,Ya,I,h1]
 refine⟨⟨H,⟨.slice (some (Av gs)) (p.at_.length+1) cs,.slice (some (Av gt)) (p.at_.length+1) Z,vf,?_,?_,?_,?_⟩,?_,h.room,?_,?_,?_,?_,?_,?_,?_,?_⟩,?_⟩
 . have e:((set5 W gs p.at_.length { n with id:=p.at_.length }).setCell (Aw gt p.at_.length) (.bool true)).heap[pb]?=W.heap[pb]?:=(Az (ne H O (by simp)) _).trans (BK (ne H os (by simp)));exact A2 (e.trans X) _
 . have a0:=Gr (l:=p.at_++[rn0]) (by simpa using h2) (k:=p.at_.length) (by simp) { n with id:=p.at_.length };have U:=(a0.setCell_other (p:=Aw gt p.at_.length) (by rw[O];simp) (.bool true)).setCell_other (p:=Aw pb 4) (by rw[H];simp) (Iv ((p.many+1:Nat):Int));rw[g2]at U;simpa [Ae.fresh]using U
 . have U:=(h3.keep (w':=set5 W gs p.at_.length { n with id:=p.at_.length }) (o':=o') (λg Y=>BK (ne Y os (by simp))) (λ_ h=>h)).stored p.at_.length (.bool true);have a2:=U.setCell_other (p:=Aw pb 4) (by rw[H];simp) (Iv ((p.many+1:Nat):Int));rw[<-hl,XG,ZJ _ _ (by simp)]at a2;simp only[Ae.fresh,X4,Ze,XG];simpa [hl]using a2
 . exact((j.keep (w':=set5 W gs p.at_.length { n with id:=p.at_.length }) (o':=o') (λg Y=>BK (ne Y os (by simp))) (λ_ h=>h)).setCell_other (p:=Aw gt p.at_.length) (by rw[O];simp) (.bool true)).setCell_other (p:=Aw pb 4) (by rw[H];simp) (Iv ((p.many+1:Nat):Int))
 . simp[Ae.fresh,hl]
 . simp only[Ae.fresh,X4,Ze];omega
 . rw[g0];have:=h.pos;simp[h.zero];omega
 . simp[Ae.fresh]
 ·intro i hi
  by_cases e:i=p.at_.length
  . subst e;simp[Ae.nd,Ae.fresh,List.getD]
  . rw[g4 i e];rw[g0]at hi;simp[e]at hi;exact h.id i hi
 . have:=h.many;simp only[Ae.fresh,X4,Ze];omega
 . exact h.nodup
 . intro i hi;have:i∈p.free:=hi;rw[d]at this;cases this
 ·have e1:(p.fresh n).at_.length=p.at_.length+1:=by simp[Ae.fresh]
  have g3:∀i,i<p.at_.length->(if(p.fresh n).tk i=true then(1:Int)else 0)=if p.tk i=true then 1 else 0:=by
   intro i hi;have g1:(i == p.at_.length)=false:=by simp;omega
   rw[g0,g1];simp
  rw[e1,Ah,B5 (g:=λi=>if p.tk i=true then 1 else 0) p.at_.length g3,<-h.cnt,g0];simp[Ae.fresh]
 . exact((Gt (Chg.refl _ _ _) os (.inr (.inl rfl))).setCell (p:=Aw gt p.at_.length) O (.inr (.inr (.inl rfl))) _).setCell (p:=Aw pb 4) H (.inl rfl) _
abbrev aG:=@Nat.mul_le_mul
def I7 (T e U:TypeId)(size bytes:Nat)(z:Value)(b:prog.underlying T=some (.slice e))(a:(prog.info? e).map (λi=>(i.zero,i.size,i.bytes))=some (some z,size,bytes))(I:z.cells.size=size)(O:0<size)
 {wr:Wd} {o:Own} {r:Role} {v:Value} {n:Nat} {xs:List Value} (news:Array Value) (hl:news.size=size) (h1:∀u∈news.toList,u.oneCell'=true) (h:RowR o wr r e size v n xs) (H:Ac o wr) (c:n<1000000000) (hb:bytes<=10000):
 ∃g cap w' o',(Builtin.append_ #[T,T] U #[v,.slice (some (Av wr.heap.size)) 1 1]).run prog (wr.alloc (.cells news e))=.ok (.slice (some (Av g)) (n+1) cap) w' /\
  RowR o' w' r e size (.slice (some (Av g)) (n+1) cap) (n+1) (xs++news.toList)/\Chg (· = r) o o' wr w'/\Ac o' w':=by
 obtain⟨i,hi,Y,g1,g6⟩:=Zm a;have g0:Bw wr (wr.alloc (.cells news e)):=Ag _ _;have g4:RowR o (wr.alloc (.cells news e)) r e size v n xs:=h.keep (λg Z=>g0.block g (H g r Z)) (λ_ h=>h);have g2:∀j u,news.toList[j]?=some u->(wr.alloc (.cells news e)).cell? (((Av wr.heap.size):Addr).add j)=some u:=by
  intro j u hu;have g3:((Av wr.heap.size):Addr).add j=(Aw wr.heap.size j):=by unfold Addr.add;split<;>simp_all
  rw[g3,Xw _ _ _ _ _ _ (Xv wr _)];simpa using hu
 have g5:(n+1)*bytes<=140737488355328:=Xz (aG (show n+1<=1000000000 by omega) hb) (by decide);obtain⟨v',w',o',a0,X,a2,a3⟩:=g4.append (P:=prog) (H.mono g0.size) T U i z bytes b hi Y g1 g6 I O (Av wr.heap.size) 1 1 news.toList (by simpa using hl) g2 h1 (by unfold maxLen;omega) g5;obtain⟨g,cap,rfl,_⟩:=X.shape (by omega);exact⟨g,cap,w',o',a0,X,(Chg.of_below g0 _ _).trans a2,a3⟩
def Fu (T e:TypeId)(size bytes:Nat)(z:Value)(d:prog.underlying T=some (.slice e))(b:(prog.info? e).map (λi=>(i.zero,i.size,i.bytes))=some (some z,size,bytes))(H:z.cells.size=size)(I:0<size)
 {wr:Wd} {ops:Array Oper} {rest:List Oper} {op:Oper} {a:Act} {Q:Exit->Act->Wd->Prop} {W:Wd} (X:op.guard=none) (s x:Operand)
 (O:op.op=.call { callee:=.builtin .append,args:=#[s,x],argTypes:=#[T,T] })
 {o:Own} {r:Role} {v:Value} {n:Nat} {xs:List Value} (hs:a.eval s=v) {N:Nat} (hx:a.eval x=.slice (some (Av N)) 1 1) {news:Array Value}
 (c:W=wr.alloc (.cells news e)) (f:N=wr.heap.size) (hl:news.size=size) (h1:∀u∈news.toList,u.oneCell'=true) (h:RowR o wr r e size v n xs) (U:Ac o wr) (Z:n<1000000000) (hb:bytes<=10000)
 (j:∀g cap w' o',RowR o' w' r e size (.slice (some (Av g)) (n+1) cap) (n+1) (xs++news.toList)->Chg (· = r) o o' wr w'->Ac o' w'->wpList prog ops Q rest (a.put op.dst (.slice (some (Av g)) (n+1) cap)) w'):wpList prog ops Q (op::rest) a W:=by
 subst f;subst c
 obtain⟨g,cap,w',o',Y,h2,h3,k⟩:=I7 T e op.type size bytes z d b H I news hl h1 h U Z hb;refine wpList_plain X λK g0=>?_
 unfold Oper.wp execOp;simp only[O,resolve,invoke,builtin,Yx,Sem.run_pure,XY,List.map_toArray,Yz,aE,hs,hx,Y];exact g0 _ _ (j g cap w' o' h2 h3 k)
structure Dx (o:Own)(w:Wd)(p:Ae)(n:RN)(b pb:Nat)(vs vt vf:Value)(nl nt:Nat)(xs:List Value)(bs:List Value)(o1:Own)(wx:Wd):Prop where
 fpb:wx.heap[pb]?=some (.cells #[Iv p.room,vs,vt,vf,Iv p.many] 219 (0,0))
 box:wx.heap[b]?=some (.cells #[Iv n.id,Iv n.v,Iv n.lo,Iv n.hi,Iv n.refs] 203 (0,0))
 slots:RowR o1 wx .slots 203 5 vs nl xs
 taken:RowR o1 wx .taken 4 1 vt nt bs
 free:RowR o1 wx .free 3 1 vf p.free.length (p.free.map nat64)
 chg:Chg (λr=>r=.pool\/r=.slots\/r=.taken\/r=.free) o o1 w wx
 lt:Ac o1 wx
 ob:o1 b=none
 op:o1 pb=some .pool
def Dx.grown1 {o:Own}{n:RN}{vs vt H:Value}{Z nt U:Nat}{bs O:List Value}{X:Wd}(h:Dx o w p n b pb vs vt vf Z nt xs bs o1 wx)
 (a:RowR o2 X .slots 203 5 H U O) (I:Chg (· = .slots) o1 o2 wx X) (hl:Ac o2 X):Dx o w p n b pb H vt vf U nt O bs o2 (X.setCell (Aw pb 1) H):=by
 have g0:=I.ext _ _ h.op;have g1:b<wx.heap.size:=(Xt.1 h.box).1;have g2:=I.alien' g1 h.ob;have Y:b≠pb:=by intro e;have h1:=h.op;rw[<-e,h.ob]at h1;cases h1
 exact⟨A2 ((I.same h.lt h.op (by simp)).trans h.fpb) _,(Az Y _).trans ((I.alien g1 h.ob).trans h.box),a.setCell_other (by rw[g0];simp) _,(h.taken.chg I h.lt (by simp)).setCell_other (by rw[g0];simp) _,
  (h.free.chg I h.lt (by simp)).setCell_other (by rw[g0];simp) _,(h.chg.trans (I.mono λr e=>.inr (.inl e))).setCell (p:=Aw pb 1) g0 (.inl rfl) _,hl.mono (by simp[World.setCell]),g2,g0⟩
def Dx.grown2 {o:Own}{n:RN}{vs vt H:Value}{Z nt O:Nat}{bs U:List Value}{X:Wd}(h:Dx o w p n b pb vs vt vf Z nt xs bs o1 wx)
 (a:RowR o2 X .taken 4 1 H O U) (I:Chg (· = .taken) o1 o2 wx X) (hl:Ac o2 X):Dx o w p n b pb vs H vf Z O xs U o2 (X.setCell (Aw pb 2) H):=by
 have g0:=I.ext _ _ h.op;have g1:b<wx.heap.size:=(Xt.1 h.box).1;have g2:=I.alien' g1 h.ob;have Y:b≠pb:=by intro e;have h1:=h.op;rw[<-e,h.ob]at h1;cases h1
 exact⟨A2 ((I.same h.lt h.op (by simp)).trans h.fpb) _,(Az Y _).trans ((I.alien g1 h.ob).trans h.box),(h.slots.chg I h.lt (by simp)).setCell_other (by rw[g0];simp) _,a.setCell_other (by rw[g0];simp) _,
  (h.free.chg I h.lt (by simp)).setCell_other (by rw[g0];simp) _,(h.chg.trans (I.mono λr e=>.inr (.inr (.inl e)))).setCell (p:=Aw pb 2) g0 (.inl rfl) _,hl.mono (by simp[World.setCell]),g2,g0⟩
abbrev Z2:=@List.flatMap_append
def PF (o:Own)(pb:Nat)(p:Ae)(n:RN)(w:Wd)(h:Aq o w pb p)(d:Ac o w)(E:p.free=[])(Z:p.at_.length<=p.room):
 Cl 172 #[Pt pb,Ao n] w λx w'=>x=.returned (.tuple #[Iv p.at_.length,Iv 0])/\∃o',Aq o' w' pb (p.fresh n)/\Chg (λr=>r=.pool\/r=.slots\/r=.taken\/r=.free) o o' w w'/\Ac o' w':=by
 have gz:=h.blk;obtain⟨vs,vt,vf,t,hs,s,J⟩:=gz;obtain⟨gs,cs,rfl,gB,_⟩:=hs.shape h.pos;obtain⟨gt,ct,rfl,gA,_⟩:=s.shape (by rw[h.len];exact h.pos);obtain⟨A,u,rfl,_⟩:=J.slice;rw[h.len,E]at t;rw[h.len]at s;obtain⟨I,c1,c2,X,Y,f0⟩:=cells5 t;have gD:¬ (p.room:Int)<p.at_.length:=by omega
 have H:pb<w.heap.size:=Ad I;have gH:=h.top;have gG:=h.room;have HH:=Hd h;have l:=Hd d;have HS:=Hd hs;have HT:=Hd s;have HF:=Hd J;have gF:=Hd h.own;have N:=Hd E;have gq:=Hd h.len;have gE:=Hd t;obtain⟨in_,T,gh,gi,gj⟩:=Zm Gv;obtain⟨ib,S,gk,gl,gm⟩:=Zm I6;have gK:=Hd (⟨T,gh,gi,gj⟩:_/\_/\_/\_);have gL:=Hd (⟨S,gk,gl,gm⟩:_/\_/\_/\_);clear hs s J h E d gB gA t T gh gi gj S gk gl gm;unfold Ao
 go_enter func172,ntmps172
 go_wp2_with (fail)
 go_quiet (fail)
 have g7:Bw w ((w.alloc (.cells #[Iv n.id,Iv n.v,Iv n.lo,Iv n.hi,Iv n.refs] 203)).drewN nq):=Gc w nq _;have ge:((w.alloc (.cells #[Iv n.id,Iv n.v,Iv n.lo,Iv n.hi,Iv n.refs] 203)).drewN nq).heap[w.heap.size]?=some (.cells #[Iv n.id,Iv n.v,Iv n.lo,Iv n.hi,Iv n.refs] 203 (0,0)):=Xv w _;have L:((w.alloc (.cells #[Iv n.id,Iv n.v,Iv n.lo,Iv n.hi,Iv n.refs] 203)).drewN nq).heap.size=w.heap.size+1:=by simp
 obtain⟨M,V⟩:=Ex ((w.alloc (.cells #[Iv n.id,Iv n.v,Iv n.lo,Iv n.hi,Iv n.refs] 203)).drewN nq);rw[<-V]at g7 ge L⊢;obtain⟨b,hb⟩:=Ex w.heap.size;rw[<-hb]at ge L⊢;have O:Dx o w p n b pb (.slice (some (Av gs)) p.at_.length cs) (.slice (some (Av gt)) p.at_.length ct) (.slice A 0 u) p.at_.length p.at_.length (p.at_.flatMap rnV) (p.taken.map Value.bool) o M:=
  ⟨(g7.block pb H).trans gE.o,ge,HS.o.below l.o g7,HT.o.below l.o g7,by have:=HF.o.below l.o g7;rw[N.o]at this⊢;exact this,(Chg.of_below g7 _ _),l.o.mono g7.size,l.o.none (by omega),gF.o⟩
 have g0:=Hd O;have HB:=Hd hb;clear I c1 c2 X Y f0 V O hb ge g7 L H;obtain⟨I,c1,c2,X,Y,f0⟩:=cells5 g0.o.fpb;have H:pb<M.heap.size:=Ad I;go_upto_region 10 with fail
 go_cut [4] (λm wx=>m=Iv p.at_.length/\∃g1 k1 o1,Dx o w p n b pb (.slice (some (Av g1)) (p.at_.length+1) k1) (.slice (some (Av gt)) p.at_.length ct) (.slice A 0 u) (p.at_.length+1) p.at_.length (p.at_.flatMap rnV++[Iv 0,Iv 0,Iv 0,Iv 0,Iv 0]) (p.taken.map Value.bool) o1 wx)
 case first=>
  go_wp2_with (at_builtin
               refine Fu 217 203 5 40 _ underlying217 Gv rfl (by decide) rfl _ _ rfl rfl rfl rfl (by simp) rfl (by decide) g0.o.slots g0.o.lt (by omega) (by decide) ?_;intro g1 k1 w1 o1 i g3 g6;obtain⟨q0,q1,q2,q3,q4,fq⟩:=cells5 ((g3.same g0.o.lt g0.o.op (by simp)).trans g0.o.fpb);have G:=Hd i;have gc:=Hd g3;have f:=Hd g6;clear i g3 g6 I c1 c2 X Y f0)
  go_meet;exact⟨rfl,g1,k1,o1,g0.o.grown1 G.o gc.o f.o⟩
 case rest=>
  obtain⟨rfl,g1,k1,o1,O⟩:=hcut;clear I c1 c2 X Y f0 H g0
  rename Wd=>wr
  have g0:=Hd O;obtain⟨I,c1,c2,X,Y,f0⟩:=cells5 O.fpb;have H:pb<wr.heap.size:=Ad I;clear O;go_upto_region 11 with fail
  go_cut [4] (λm wx=>m=Iv p.at_.length/\∃g1 k1 g2 k2 o1,Dx o w p n b pb (.slice (some (Av g1)) (p.at_.length+1) k1) (.slice (some (Av g2)) (p.at_.length+1) k2) (.slice A 0 u) (p.at_.length+1) (p.at_.length+1) (p.at_.flatMap rnV++[Iv 0,Iv 0,Iv 0,Iv 0,Iv 0]) (p.taken.map Value.bool++[.bool false]) o1 wx)
  case first=>
   go_wp2_with (at_builtin
                refine Fu 28 4 1 1 _ underlying28 I6 rfl (by decide) rfl _ _ rfl rfl rfl rfl (by simp) rfl (by decide) g0.o.taken g0.o.lt (by omega) (by decide) ?_;intro g2 k2 w2 o2 i g3 g6;obtain⟨q0,q1,q2,q3,q4,fq⟩:=cells5 ((g3.same g0.o.lt g0.o.op (by simp)).trans g0.o.fpb);have G:=Hd i;have gc:=Hd g3;have f:=Hd g6;clear i g3 g6 I c1 c2 X Y f0)
   go_meet;exact⟨rfl,g1,k1,g2,k2,o2,g0.o.grown2 G.o gc.o f.o⟩
  case rest=>
   obtain⟨rfl,g1,k1,g2,k2,o1,O⟩:=hcut;clear I c1 c2 X Y f0 H g0
   rename Wd=>w3
   have g0:=Hd O;obtain⟨I,c1,c2,X,Y,f0⟩:=cells5 O.fpb;obtain⟨j,b1,b2,z,y,fb⟩:=cells5 O.box;have H:pb<w3.heap.size:=Ad I;have lb:b<w3.heap.size:=Ad j;have B:pb≠b:=by intro e;have h1:=O.op;rw[e,O.ob]at h1;cases h1
   clear O;go_upto_region 13 with fail;obtain⟨W1,g4⟩:=Ex (w3.setCell (Av b) (Iv p.at_.length));rw[<-g4];have go:W1.heap[b]?=some (.cells #[Iv p.at_.length,Iv n.v,Iv n.lo,Iv n.hi,Iv n.refs] 203 (0,0)):=by rw[g4];exact A2 g0.o.box _
   have g9:=(Az (p:=Av b) B (Iv p.at_.length:Value)).trans g0.o.fpb;rw[<-g4]at g9;have g3:Chg (λr=>r=.pool\/r=.slots\/r=.taken\/r=.free) o o1 w W1:=by
    rw[g4];exact g0.o.chg.setCell_new (p:=Av b) (by rw[HB.o];exact Xs _) _
   have gf:∀r,o1 ((Av b):Addr).block≠some r:=by intro r e;rw[show o1 ((Av b):Addr).block=o1 b from rfl,g0.o.ob]at e;cases e
   have hs1:RowR o1 W1 .slots 203 5 (.slice (some (Av g1)) (p.at_.length+1) k1) (p.at_.length+1) ((p.at_++[rn0]).flatMap rnV):=by
    rw[g4,Z2];exact g0.o.slots.setCell_other (gf _) _
   have g8:RowR o1 W1 .taken 4 1 (.slice (some (Av g2)) (p.at_.length+1) k2) (p.at_.length+1) ((p.taken++[false]).map Value.bool):=by
    rw[g4,XG];exact g0.o.taken.setCell_other (gf _) _
   have R:RowR o1 W1 .free 3 1 (.slice A 0 u) p.free.length (p.free.map nat64):=by rw[g4];exact g0.o.free.setCell_other (gf _) _
   have g6:Ac o1 W1:=by rw[g4];exact g0.o.lt.mono (by simp[World.setCell])
   have g5:=HH.o.toFresh (n:=n) N.o Z g0.o.op g9 hs1 g8 R;have ne:∀{a b r q},o1 a=some r->o1 b=some q->r≠q->a≠b:=λha hb hr e=>by subst e;rw[ha]at hb;cases hb;exact hr rfl
   have c:pb≠g1:=ne g0.o.op hs1.owner (by simp);have npt:pb≠g2:=ne g0.o.op g8.owner (by simp);have nst:g1≠g2:=ne hs1.owner g8.owner (by simp);have U:b≠g1:=by intro e;have h1:=hs1.owner;rw[<-e,g0.o.ob]at h1;cases h1
   obtain⟨s0,s1,s2,s3,m⟩:=Aq.node (p:={ p with at_:=p.at_++[rn0] }) (k:=p.at_.length) (by simpa using hs1) (by simp);have fg1:=hs1.frozen;have t0:=Aq.flag (p:={ p with taken:=p.taken++[false] }) (k:=p.at_.length) (by simpa [gq.o]using g8) (by simp[gq.o]);have fg2:=g8.frozen p.at_.length;clear I c1 c2 X Y f0 j b1 b2 z y fb H lb ne;obtain⟨I,c1,c2,X,Y,f0⟩:=cells5 g9;obtain⟨j,b1,b2,z,y,fb⟩:=cells5 go
   have Q:Hq (∀W:Wd,(∀g,g≠g1->W.heap[g]?=W1.heap[g]?)->W.cell? (Aw pb 1)=some (.slice (some (Av g1)) (p.at_.length+1) k1)/\W.cell? (Aw pb 2)=some (.slice (some (Av g2)) (p.at_.length+1) k2) /\
    W.cell? (Av b)=some (Iv p.at_.length)/\W.cell? (Aw b 1)=some (Iv n.v)/\W.cell? (Aw b 2)=some (Iv n.lo)/\W.cell? (Aw b 3)=some (Iv n.hi)/\W.cell? (Aw b 4)=some (Iv n.refs)):=by
    show ∀_,_
    intro W hW;have a:=λg k (D:g≠g1)=>XR (w:=W1) (w':=W) (a:=Aw g k) (hW g D)
    exact⟨(a pb 1 c).trans c1,(a pb 2 c).trans c2,(a b 0 U).trans j,(a b 1 U).trans b1,(a b 2 U).trans b2,(a b 3 U).trans z,(a b 4 U).trans y⟩
   have gC:=Hd g5;have gc:=Hd g3;have f:=Hd g6;have gI:(p.many:Int)+1<9223372036854775807:=by have:=HH.o.many;omega
   have gJ:(p.at_.length:Int)<(p.at_.length:Int)+1:=by omega
   clear g5 g3 g6 hs1 g8 R go g9 gf g4 I c1 c2 X j b1 b2 z y fb g0
   refine AJ (λW:Wd=>W.cell? (Aw pb 1)=some (.slice (some (Av g1)) (p.at_.length+1) k1)/\W.cell? (Aw pb 2)=some (.slice (some (Av g2)) (p.at_.length+1) k2) /\
    W.cell? (Av b)=some (Iv p.at_.length)/\W.cell? (Aw b 1)=some (Iv n.v)/\W.cell? (Aw b 2)=some (Iv n.lo)/\W.cell? (Aw b 3)=some (Iv n.hi)/\W.cell? (Aw b 4)=some (Iv n.refs)) true 14
    [(0,false),(1,false),(2,false),(3,false),(4,false),(5,false),(6,false),(7,false),(8,false),(9,false),(10,false),(11,false),(12,true),(13,false),(14,true)] (by kernel_rfl) (by kernel_rfl) (Q.o _ (λ_ _=>rfl)) ?_
   simp only[planned,AI]
   iterate 12
    refine A0 rfl ?_;apply Exists.intro;refine⟨λw' C=>?_,?_⟩
    . obtain⟨h1,h2,h3,h4,h5,h6,h7⟩:=C;go_simp;rfl
    simp only[Ab]
   refine Fq rfl (λK F=>?_);unfold Oper.wp;go_simp;refine F _ _ (Q.o _ (λg D=>BK (w:=W1) (n:=⟨p.at_.length,n.v,n.lo,n.hi,n.refs⟩) D)) ?_
   iterate 1
    refine A0 rfl ?_;apply Exists.intro;refine⟨λw' C=>?_,?_⟩
    . obtain⟨h1,h2,h3,h4,h5,h6,h7⟩:=C;go_simp;rfl
    simp only[Ab]
   refine DE rfl (λK F=>?_);unfold Oper.wp;go_simp;refine F _ _ (C2 ?_);go_wp2
   go_ret2
   have g5:=gC.o;rw[show((p.many+1:Nat):Int)=(p.many:Int)+1 by omega]at g5;exact⟨rfl,o1,g5.1.drew,(gc.o.trans g5.2).drew,f.o.mono (by simp[World.setCell])⟩
def C4 (I:w.cell? (Aw g k)=some u)(H:w.frozen? (Aw g k)=false)(h1:v.oneCell'=true):(store (Aw g k) v).run P w=.ok () (w.setCell (Aw g k) v):=by
 rw[run_store P w _ v _ h1,I];simp[H]
def AZ {p q:Addr}(h:w.cell? q=some u):∃u',(w.setCell p v).cell? q=some u':=by
 by_cases e:p=q
 . subst e;exact⟨v,World.cell?_setCell_same' _ _ _ (by rw[h];rfl)⟩
 . exact⟨u,by rw[World.cell?_setCell_other w p q v e];exact h⟩
def PG:(prog.info? 203).map (λi=>i.size)=some 5:=by kernel_rfl
abbrev Y3:=@Option.map_some
def DF (f:∀j,w.frozen? (Aw g j)=false){h Z Y X U:Value}(x:w.cell? (Aw g (k*5))=some h)(c1:w.cell? (Aw g (k*5+1))=some Z)(c2:w.cell? (Aw g (k*5+2))=some Y)(u:w.cell? (Aw g (k*5+3))=some X)(t:w.cell? (Aw g (k*5+4))=some U)(a b c d e:Int):
 (Instr.storeAt 203 (.pointer (some (Aw g (k*5)))) (.agg #[Iv a,Iv b,Iv c,Iv d,Iv e])).run prog w=
  .ok () (((((w.setCell (Aw g (k*5)) (Iv a)).setCell (Aw g (k*5+1)) (Iv b)).setCell (Aw g (k*5+2)) (Iv c)).setCell (Aw g (k*5+3)) (Iv d)).setCell (Aw g (k*5+4)) (Iv e)):=by
 have s:=PG;have g0:∀j,((Aw g (k*5)):Addr).add j=(Aw g (k*5+j)):=λj=>by unfold Addr.add;split<;>simp_all
 have g1:(Instr.sureAddr (Value.pointer (some (Aw g (k*5))))).run prog w=.ok (Aw g (k*5)) w:=rfl;cases hi:prog.info? 203 with
 | none=>rw[hi]at s;cases s
 | some i=>
   rw[hi]at s;simp only[Y3,Yd]at s;have H:∀(w':Wd) p v j,(w'.setCell p v).frozen? (Aw g j)=w'.frozen? (Aw g j):=λw' p v j=>YU _ _ _ _
   obtain⟨v1,e1⟩:=AZ (p:=(Aw g (k*5))) (v:=Iv a) c1;obtain⟨v2,e2⟩:=AZ (p:=(Aw g (k*5))) (v:=Iv a) c2;obtain⟨v2,e2⟩:=AZ (p:=(Aw g (k*5+1))) (v:=Iv b) e2;obtain⟨v3,O⟩:=AZ (p:=(Aw g (k*5))) (v:=Iv a) u;obtain⟨v3,O⟩:=AZ (p:=(Aw g (k*5+1))) (v:=Iv b) O;obtain⟨v3,O⟩:=AZ (p:=(Aw g (k*5+2))) (v:=Iv c) O;obtain⟨v4,I⟩:=AZ (p:=(Aw g (k*5))) (v:=Iv a) t;obtain⟨v4,I⟩:=AZ (p:=(Aw g (k*5+1))) (v:=Iv b) I;obtain⟨v4,I⟩:=AZ (p:=(Aw g (k*5+2))) (v:=Iv c) I;obtain⟨v4,I⟩:=AZ (p:=(Aw g (k*5+3))) (v:=Iv d) I;have r:=C4 (P:=prog) (v:=Iv a) x (f _) rfl;have q:=C4 (P:=prog) (v:=Iv b) e1 (by rw[H];exact f _) rfl;have n:=C4 (P:=prog) (v:=Iv c) e2 (by rw[H,H];exact f _) rfl;have m:=C4 (P:=prog) (v:=Iv d) O (by rw[H,H,H];exact f _) rfl;have l:=C4 (P:=prog) (v:=Iv e) I (by rw[H,H,H,H];exact f _) rfl;simp only[Instr.storeAt,Yx,g1,XY];simp[storeVar,sizeOf,typeInfo,hi,s,Value.cells,storeCells,g0,r,q,n,m,l]
def EA (hs:(P.info? T).map (λi=>i.size)=some 1)(U:w.cell? (Aw g k)=some u)(O:w.frozen? (Aw g k)=false)(h1:v.oneCell'=true)(I:v.cells=#[v]):
 (Instr.storeAt T (.pointer (some (Aw g k))) v).run P w=.ok () (w.setCell (Aw g k) v):=by
 have g1:(Instr.sureAddr (Value.pointer (some (Aw g k)))).run P w=.ok (Aw g k) w:=rfl;have g0:((Aw g k):Addr).add 0=(Aw g k):=by simp[Addr.add]
 cases hi:P.info? T with
 | none=>rw[hi]at hs;cases hs
 | some i=>
   rw[hi]at hs;simp only[Y3,Yd]at hs;have H:=C4 (P:=P) U O h1;simp only[Instr.storeAt,Yx,g1,XY];simp[storeVar,sizeOf,typeInfo,hi,hs,I,storeCells,g0,H]
def PH:(prog.info? 4).map (λi=>i.size)=some 1:=by kernel_rfl
def I8 {o:Oper}{s x:Operand}(I:o.op=.store t s x)(H:(Instr.storeAt t (a.eval s) (a.eval x)).run P w=.ok () w'):(execOp a.eval o).run P w=.ok .skip w':=by
 unfold execOp;simp[I,H]
def I9 {o:Oper}{r:List (Option Oper×Bool)}{s x:Operand}(O:o.guard=none)(I:o.op=.store t s x)
 (H:(Instr.storeAt t (a.eval s) (a.eval x)).run P w=.ok () w') (U:S w') (h:AG P ops Q S last r (a.put o.dst undef) w'):AG P ops Q S last ((some o,true)::r) a w:=by
 refine Fq O λK X=>?_
 unfold Oper.wp;rw[I8 I H];exact X _ _ U h
def EB {o:Oper}{s x:Operand}(O:o.guard=none)(I:o.op=.store t s x)
 (H:(Instr.storeAt t (a.eval s) (a.eval x)).run P w=.ok () w') (h:Q .normal (a.put o.dst undef) w'):AG P ops (NP Q) S true [(some o,true)] a w:=by
 refine DE O λK U=>?_
 unfold Oper.wp;rw[I8 I H];exact U _ _ (C2 h)
def Ae.give (p:Ae)(id:Nat):Ae:={ p with at_:=p.at_.set id rn0,taken:=p.taken.set id false,free:=p.free++[id],many:=p.many-1 }
theorem Ae.give_get (h2:id<p.taken.length)(h1:id<p.at_.length)(i:Nat):(p.give id).get i=if i=id then none else p.get i:=by
 unfold Ae.get;have e1:(p.give id).tk i=if i=id then false else p.tk i:=Ft h2 i
 have e2:(p.give id).nd i=if i=id then rn0 else p.nd i:=Dw h1 i
 rw[e1,e2]
 by_cases e:i=id<;>simp[e]
def KP {f:Nat->Int}(h:∀i,i<k->0<=f i)(I:j<k)(H:1<=f j):1<=Ah k f:=Int.le_trans H (Gj k h I)
theorem Aq.many_pos {o:Own}(h:Aq o w pb p)(hi:p.tk id=true):0<p.many:=by
 have:=h.cnt;have h2:1<=Ah p.at_.length (λi=>if p.tk i=true then(1:Int)else 0):=KP (λi _=>by split<;>omega) (h.tk_lt hi).2 (by simp[hi]);omega
abbrev XD:=@List.mem_append
abbrev XB:=@List.mem_singleton
theorem Aq.toGive {o:Own}(h:Aq o w pb p)(hi:p.tk id=true){vs vt:Value}(O:o1 pb=some .pool)
 (I:W.heap[pb]?=some (.cells #[Iv p.room,vs,vt,vf,Iv ((p.many-1:Nat):Int)] 219 (0,0)))
 (h2:RowR o1 W .slots 203 5 vs p.at_.length ((p.at_.set id rn0).flatMap rnV)) (h3:RowR o1 W .taken 4 1 vt p.at_.length ((p.taken.set id false).map Value.bool))
 (Y:RowR o1 W .free 3 1 vf (p.free.length+1) ((p.free++[id]).map nat64)):Aq o1 W pb (p.give id):=by
 obtain⟨i0,H⟩:=h.tk_lt hi;have i2:id<p.taken.length:=by rw[h.len];exact H
 have tk:∀i,(p.give id).tk i=if i=id then false else p.tk i:=λi=>Ft i2 i
 have nd:∀i,(p.give id).nd i=if i=id then rn0 else p.nd i:=λi=>Dw H i
 have g1:=h.many_pos hi;have Z:=h.many;refine⟨O,⟨vs,vt,vf,I,?_,?_,?_⟩,?_,h.room,?_,?_,?_,?_,?_,?_,?_,?_⟩
 . simpa [Ae.give]using h2
 . simpa [Ae.give,h.len]using h3
 . simpa [Ae.give]using Y
 . simp[Ae.give,h.len]
 . have:=h.top;simpa [Ae.give]using this
 . rw[tk,Xu (by omega)];exact h.zero
 . have:=h.pos;simpa [Ae.give]using this
 ·intro i g0;rw[tk]at g0;rw[nd]
  by_cases e:i=id
  . rw[Xx e]at g0;cases g0
  . rw[Xu e]at g0⊢;exact h.id i g0
 . simp only[Ae.give,X4,Ze,XE];omega
 ·refine Yl.2 ⟨h.nodup,by simp,?_⟩;intro x hx y U e;simp at U;subst U;subst e
  have:=(h.free _ hx).2.2;rw[hi]at this;cases this
 ·intro i g0;rw[tk];simp only[Ae.give,XD,XB,XE]at g0⊢;rcases g0 with g0|rfl
  ·have:=h.free i g0;refine⟨this.1,this.2.1,?_⟩;split
   . rfl
   . exact this.2.2
  . exact⟨i0,H,by simp⟩
 ·have X:=h.cnt;have:Ah (p.give id).at_.length (λi=>if(p.give id).tk i=true then 1 else 0)=Ah p.at_.length (λi=>if p.tk i=true then 1 else 0)+((if(p.give id).tk id=true then 1 else 0)-(if p.tk id=true then 1 else 0)):=by
   have hl:(p.give id).at_.length=p.at_.length:=by simp[Ae.give]
   rw[hl];refine Dv (λi hi=>?_) _ H;rw[tk,Xu hi]
  rw[this,tk,Xx rfl,hi,<-X];simp[Ae.give];omega
theorem PI (o:Own)(pb:Nat)(p:Ae)(id:Nat)(w:Wd)(h:Aq o w pb p)(Z:Ac o w)(hi:p.tk id=true):
 Cl 174 #[Pt pb,Iv id] w λx w'=>x=.returned (Iv 0)/\∃o',Aq o' w' pb (p.give id)/\Chg (λr=>r=.pool\/r=.slots\/r=.taken\/r=.free) o o' w w'/\Ac o' w':=by
 obtain⟨vs,vt,vf,g8,hs,O,ge⟩:=h.blk;obtain⟨gs,cs,rfl,g2,_⟩:=hs.shape h.pos;obtain⟨gt,U,rfl,g0,_⟩:=O.shape (by rw[h.len];exact h.pos);obtain⟨af,cf,rfl,_⟩:=ge.slice;rw[h.len]at g8 O;obtain⟨X,c1,c2,i,f,f0⟩:=cells5 g8;obtain⟨i0,t⟩:=h.tk_lt hi;have i1':(id:Int)<p.at_.length:=by omega
 have gP:=h.top;have gO:=h.room;obtain⟨n0,E,D,C,B⟩:=Aq.node hs (k:=id) t;have A:=O;rw[<-h.len]at A;have t0:=Aq.flag A (k:=id) (by rw[h.len];exact t);have d:=hs.frozen;have c:=O.frozen id;have ne:∀{a b r q},o a=some r->o b=some q->r≠q->a≠b:=λha hb hr e=>by subst e;rw[ha]at hb;cases hb;exact hr rfl
 have H:pb≠gs:=ne h.own g2 (by simp);have m:pb≠gt:=ne h.own g0 (by simp);have Y:gs≠gt:=ne g2 g0 (by simp);have gS:=h.many_pos hi;have gz:=h.many;obtain⟨W2,g3⟩:=Ex ((set5 w.drew gs id rn0).setCell (Aw gt id) (.bool false));have gc:W2.heap[pb]?=some (.cells #[Iv p.room,.slice (some (Av gs)) p.at_.length cs,.slice (some (Av gt)) p.at_.length U,.slice af p.free.length cf,Iv p.many] 219 (0,0)):=by
  rw[g3,Az (p:=Aw gt id) m,BK H];exact g8
 have R:RowR o W2 .slots 203 5 (.slice (some (Av gs)) p.at_.length cs) p.at_.length ((p.at_.set id rn0).flatMap rnV):=by
  have:=(Gr hs.drew t rn0).setCell_other (p:=Aw gt id) (by rw[g0];simp) (.bool false);rw[XE]at this;rw[g3];exact this
 have T:RowR o W2 .taken 4 1 (.slice (some (Av gt)) p.at_.length U) p.at_.length ((p.taken.set id false).map Value.bool):=by
  have:=(O.drew.keep (w':=set5 w.drew gs id rn0) (o':=o) (λg I=>BK (ne I g2 (by simp))) (λ_ h=>h)).stored id (.bool false);rw[g3,Zp];exact this
 have K:RowR o W2 .free 3 1 (.slice af p.free.length cf) p.free.length (p.free.map nat64):=by
  rw[g3];exact((ge.drew.keep (w':=set5 w.drew gs id rn0) (o':=o) (λg I=>BK (ne I g2 (by simp))) (λ_ h=>h)).setCell_other (p:=Aw gt id) (by rw[g0];simp) (.bool false))
 have N:Ac o W2:=by rw[g3];exact Z.mono (by simp[set5,World.setCell])
 have G:Chg (λr=>r=.pool\/r=.slots\/r=.taken\/r=.free) o o w W2:=by
  rw[g3];exact((Gt (Chg.refl _ _ _).drew g2 (.inr (.inl rfl))).setCell (p:=Aw gt id) g0 (.inr (.inr (.inl rfl))) _)
 have l:=Hd h;have HI:=Hd hi;have gB:=Hd g3;have gi:=Hd gc;have gF:=Hd R;have gD:=Hd T;have gL:=Hd K;have g9:=Hd N;have gN:=Hd G;have F:=Hd h.own;clear hs O A ge h Z hi g2 g0 g8 ne g3 gc R T K N G gz;have y:Hq (∀W:Wd,(∀g,g≠gs->W.heap[g]?=w.heap[g]?)->W.cell? (Aw pb 1)=some (.slice (some (Av gs)) p.at_.length cs)/\W.cell? (Aw pb 2)=some (.slice (some (Av gt)) p.at_.length U)):=by
  show ∀_,_
  intro W hW;have a:=λg k (I:g≠gs)=>XR (w:=w) (w':=W) (a:=Aw g k) (hW g I)
  exact⟨(a pb 1 H).trans c1,(a pb 2 H).trans c2⟩
 go_enter func174,ntmps174
 go_wp2_with (fail);refine(Gq o pb p id _ l.o).mono ?_;rintro x w' ⟨rfl,rfl⟩;rw[HI.o];go_upto_region 3 with fail;refine AJ (λW:Wd=>W.cell? (Aw pb 1)=some (.slice (some (Av gs)) p.at_.length cs)/\W.cell? (Aw pb 2)=some (.slice (some (Av gt)) p.at_.length U)) true 14
  [(0,false),(1,false),(2,false),(3,false),(4,false),(5,false),(6,false),(7,false),(8,false),(9,false),(10,false),(11,false),(12,true),(13,false),(14,true)] (by kernel_rfl) (by kernel_rfl) (y.o _ (λ_ _=>rfl)) ?_
 simp only[planned,AI]
 iterate 12
  refine A0 rfl ?_;apply Exists.intro;refine⟨λw' v=>?_,?_⟩
  . obtain⟨h1,h2⟩:=v;go_simp;rfl
  simp only[Ab]
 refine I9 rfl rfl (DF (w:=w.drew) d n0 E D C B 0 0 0 0 0) (y.o _ (λg I=>BK (w:=w.drew) (n:=rn0) (k:=id) I)) ?_;simp only[Ab]
 iterate 1
  refine A0 rfl ?_;apply Exists.intro;refine⟨λw' v=>?_,?_⟩
  . obtain⟨h1,h2⟩:=v;go_simp;rfl
  simp only[Ab]
 refine EB (w':=(set5 w.drew gs id rn0).setCell (Aw gt id) (.bool false)) rfl rfl (EA PH ((XR (w:=w.drew) (w':=set5 w.drew gs id rn0) (a:=Aw gt id) (BK (Ye Y))).trans t0) ((World.frozen?_of_block (w:=w.drew) (w':=set5 w.drew gs id rn0) (a:=Aw gt id) (BK (Ye Y))).trans c) rfl rfl) ?_;rw[<-gB.o];simp only[Ab];clear X c1 c2 i f f0 n0 E D C B t0 d c y;obtain⟨X,c1,c2,i,f,f0⟩:=cells5 gi.o;have s:pb<W2.heap.size:=Ad X;have gA:p.free.length<1000000000:=by have:=l.o.many;omega
 go_upto_region 4 with fail
 go_cut [4] (λs4 wx=>s4=Iv 0/\∃gf kf o1,wx.heap[pb]?=some (.cells #[Iv p.room,.slice (some (Av gs)) p.at_.length cs,.slice (some (Av gt)) p.at_.length U,.slice (some (Av gf)) (p.free.length+1) kf,Iv p.many] 219 (0,0)) /\
  RowR o1 wx .slots 203 5 (.slice (some (Av gs)) p.at_.length cs) p.at_.length ((p.at_.set id rn0).flatMap rnV)/\RowR o1 wx .taken 4 1 (.slice (some (Av gt)) p.at_.length U) p.at_.length ((p.taken.set id false).map Value.bool) /\
  RowR o1 wx .free 3 1 (.slice (some (Av gf)) (p.free.length+1) kf) (p.free.length+1) ((p.free++[id]).map nat64)/\o1 pb=some .pool/\Chg (λr=>r=.pool\/r=.slots\/r=.taken\/r=.free) o o1 w wx/\Ac o1 wx)
 case first=>
  go_wp2_with (at_builtin
               refine Fu 22 3 1 8 _ underlying22 E8 rfl (by decide) rfl _ _ rfl rfl rfl rfl (by simp) rfl (λu hu=>by simp at hu;subst hu;rfl) gL.o g9.o gA (by decide) ?_;intro g1 k1 w1 o1 Q z M;have g7:=(z.same g9.o F.o (by simp)).trans gi.o;obtain⟨q0,q1,q2,q3,q4,fq⟩:=cells5 g7;have gy:=Hd g7;have gG:=Hd Q;have j:=Hd z;have gJ:=Hd M;clear Q z M g7 X c1 c2 i f f0)
  go_meet;have g4:=j.o.ext _ _ F.o;refine⟨rfl,g1,k1,o1,A2 gy.o _,(gF.o.chg j.o g9.o (by simp)).setCell_other (by rw[g4];simp) _,(gD.o.chg j.o g9.o (by simp)).setCell_other (by rw[g4];simp) _,?_,g4,(gN.o.trans (j.o.mono λr e=>.inr (.inr (.inr e)))).setCell (p:=Aw pb 3) g4 (.inl rfl) _,gJ.o.mono (by simp[World.setCell])⟩;rw[XG];exact gG.o.setCell_other (by rw[g4];simp) _
 case rest=>
  obtain⟨rfl,gf,kf,o1,g6,S,V,L,gd,J,go⟩:=hcut;clear X c1 c2 i f f0 s
  rename Wd=>w3
  obtain⟨X,c1,c2,i,f,f0⟩:=cells5 g6;have gR:(p.many:Int)<9223372036854775807:=by have:=l.o.many;omega
  have gQ:(1:Int)<=p.many:=by omega
  have gH:=Hd g6;have gE:=Hd S;have gC:=Hd V;have gK:=Hd L;have g5:=Hd gd;have gM:=Hd J;have gI:=Hd go;clear g6 S V L gd J go;go_wp2;go_ret;refine⟨rfl,o1,l.o.toGive HI.o g5.o ?_ (gE.o.setCell_other (by rw[g5.o];simp) _) (gC.o.setCell_other (by rw[g5.o];simp) _) (gK.o.setCell_other (by rw[g5.o];simp) _),gM.o.setCell (p:=Aw pb 4) g5.o (.inl rfl) _,gI.o.mono (by simp[World.setCell])⟩;rw[show((p.many-1:Nat):Int)=(p.many:Int)-1 by omega];exact A2 gH.o _
def InU (x:Int):Prop:=0<=x/\x<18446744073709551616
abbrev aV:=@IntKind.wrap_u64
def KQ (x:Int):InU (IntKind.u64.wrap x):=by
 rw[aV];unfold InU;omega
def IA (op:BinOp)(x y:Int):InU (bits op .u64 x y):=by
 unfold bits;exact KQ _
def keyV (op:Int)(a b c:Nat):Value:=.agg #[Iv op,Iv a,Iv b,Iv c]
def KR (mb ge cap:Nat)(op:Int)(a b c:Nat)(w:Wd)(O:w.cell? (Aw mb 1)=some (.slice (some (Av ge)) 4096 cap)):
 Cl 171 #[Pt mb,keyV op a b c] w λx w'=>∃i,i<4096/\x=.returned (.pointer (some (Aw ge (i*6))))/\Bw w w':=by
 have I:mb<w.heap.size:=Ad O;have i0:∀w,(Instr.index 240 (.agg #[Iv a,Iv b,Iv c]) (Iv 0)).run prog w=.ok (Iv a) w:=λ_=>by kernel_rfl
 have Y:∀w,(Instr.index 240 (.agg #[Iv a,Iv b,Iv c]) (Iv 1)).run prog w=.ok (Iv b) w:=λ_=>by kernel_rfl
 have i2:∀w,(Instr.index 240 (.agg #[Iv a,Iv b,Iv c]) (Iv 2)).run prog w=.ok (Iv c) w:=λ_=>by kernel_rfl
 unfold keyV
 go_enter func171,ntmps171
 go_wp2
 go_loop [5,13] (λn i=>∃(k:Nat) (X:Int),k<=3/\InU X/\n=.int .u64 X/\i=Iv k) (λ_ i=>3-(intOf i).toNat)
 case atStart=>exact⟨0,_,by omega,KQ _,rfl,rfl⟩
 case round=>
  obtain⟨k,X,hk,H,rfl,rfl⟩:=hrel;have U:=Hd H;clear H
  by_cases g1:k<3
  ·have g0:k=0\/k=1\/k=2:=by omega
   rcases g0 with rfl|rfl|rfl
   . go_wp2_with fail;refine⟨⟨1,_,by omega,IA _ _ _,rfl,rfl⟩,by simp[intOf]⟩
   . go_wp2_with fail;refine⟨⟨2,_,by omega,IA _ _ _,rfl,rfl⟩,by simp[intOf]⟩
   . go_wp2_with fail;refine⟨⟨3,_,by omega,IA _ _ _,rfl,rfl⟩,by simp[intOf]⟩
  ·obtain rfl:k=3:=by omega
   obtain⟨i,hi,he⟩:∃i:Nat,i<4096/\X.tmod 4096=(i:Int):=by
    obtain⟨h0,_⟩:=U.o;rw[YI h0];exact⟨(X%4096).toNat,by omega,by omega⟩
   have g2:(i:Int)<4096:=by omega
   go_wp2
   go_quiet (fail)
   go_wp2;go_ret;exact⟨i,hi,rfl,Gc w _ _⟩
section
variable {κ:Type}[DecidableEq κ]
def AH (k:κ):List (κ×Value)->Nat->Option (Nat×Value)
 | [],_=>none
 | p::l,i=>if p.1=k then some (i,p.2)else AH k l (i+1)
def getL (l:List (κ×Value))(k:κ):Option Value:=(AH k l 0).map (·.2)
structure Da (P:Program)(K:TypeId)(enc:κ->Value):Prop where
 check:∀(w:Wd) (em:Bool) (k:κ),(Instr.checkKey em 10000 K (enc k)).run P w=.ok () w
 find:∀(w:Wd) (k:κ) (l:List (κ×Value)) (es:List MapEntry),es.map (λe=>(e.key,e.val))=l.map (λp=>(enc p.1,p.2)) ->
  (Instr.findKey K (enc k) es).run P w=.ok (AH k l 0) w
 stays:∀(w:Wd) (k:κ),(Instr.keyThatStays (enc k) (enc k)).run P w=.ok (enc k) w
structure Au (w:Wd)(b:Nat)(enc:κ->Value)(l:List (κ×Value)):Prop where
 ex:∃es clock,w.heap[b]?=some (.map es clock)/\es.toList.map (λe=>(e.key,e.val))=l.map (λp=>(enc p.1,p.2)) /\
  (∀e∈es.toList,e.born<clock)/\(es.toList.map (·.born)).Nodup
 nodup:(l.map Prod.fst).Nodup
def Au.lt {enc:κ->Value}{l:List (κ×Value)}(h:Au w b enc l):b<w.heap.size:=by
 obtain⟨es,c,hb,_⟩:=h.ex;exact(Xt.1 hb).1
def Au.keep {row:Option Nat}{enc:κ->Value}{l:List (κ×Value)}(h:Au w b enc l)(hk:CW row w w')(H:some b≠row):Au w' b enc l:=by
 obtain⟨es,c,hb,rest⟩:=h.ex;exact⟨⟨es,c,by rw[hk b h.lt H];exact hb,rest⟩,h.nodup⟩
def PJ (h:Bw w w')(row:Option Nat):CW row w w':=λk hk _=>h.block k hk
def Au.below {enc:κ->Value}{l:List (κ×Value)}(h:Au w b enc l)(hb:Bw w w'):Au w' b enc l:=
 h.keep (PJ hb none) (by simp)
def EC (w:Wd)(enc:κ->Value):Au (w.alloc (.map #[] 0)) w.heap.size enc []:=
 ⟨⟨#[],0,Xv w _,by simp,by simp,by simp⟩,by simp⟩
def ED {es:Array MapEntry}(h:w.heap[b]?=some (.map es c)):(getObj b).run P w=.ok (.map es c) w:=by
 simp[getObj,Sem.run,h]
abbrev YN:=@Prod.mk.injEq
def Dy {k:κ}{l:List (κ×Value)}:∀{i:Nat},AH k l i=some (j,v)->∃n,j=i+n/\l[n]?=some (k,v):=by
 induction l with
 | nil=>intro i h;cases h
 | cons p l H=>
   intro i h;unfold AH at h;split at h
   ·rename_i I
    simp only[Yd,YN]at h;obtain⟨rfl,rfl⟩:=h;exact⟨0,rfl,by simp[<-I]⟩
   . obtain⟨n,h1,h2⟩:=H h;exact⟨n+1,by omega,by simpa using h2⟩
def Gw {k:κ}{l:List (κ×Value)}:∀{i:Nat},AH k l i=none->∀p∈l,p.1≠k:=by
 induction l with
 | nil=>intro i _ p H;cases H
 | cons q l I=>
   intro i h p H;unfold AH at h;split at h
   . cases h
   ·rename_i O
    rcases Yy.1 H with rfl|H
    . exact O
    . exact I h p H
def Au.lookup {w:Wd}{b:Nat}{K T E:TypeId}{enc:κ->Value}{l:List (κ×Value)}(h:Au w b enc l)(L:Da P K enc)(O:P.underlying T=some (.map K E)){z:Value}
 (H:∀w,(zeroValue E).run P w=.ok z w) (k:κ) (ok:Bool):
 (Instr.lookup T (.map (some b)) (enc k) ok).run P w=.ok (if ok then .tuple #[(getL l k).getD z,.bool (getL l k).isSome]else(getL l k).getD z) w:=by
 obtain⟨es,c,hb,I,_⟩:=h.ex;simp only[Instr.lookup,Yx,XZ O,XY,ED hb,Sem.run_pure,L.check,L.find w k l es.toList I];unfold getL;cases U:AH k l 0 with
 | none=>simp[H,Result.andThen]
 | some p=>simp
def putL (k:κ)(v:Value)(l:List (κ×Value)):List (κ×Value):=
 match AH k l 0 with
 | some (j,_)=>l.set j (k,v)
 | none=>l++[(k,v)]
def delL (k:κ)(l:List (κ×Value)):List (κ×Value):=
 match AH k l 0 with
 | some (j,_)=>l.eraseIdx j
 | none=>l
def DG {l:List (κ×Value)}(U:(l.map Prod.fst).Nodup){k:κ}(h:(k,v)∈l):getL l k=some v:=by
 unfold getL;cases O:AH k l 0 with
 | none=>exact(Gw O _ h rfl).elim
 | some p=>
   obtain⟨j,u⟩:=p;obtain⟨n,_,h2⟩:=Dy O;obtain⟨m,X,H⟩:=Zi.1 h;have g0:n<l.length:=by
    rcases X9 n l.length with I|I
    . exact I
    . rw[XC I]at h2;cases h2
   rw[Xy g0]at h2;have h3:l[n]=(k,u):=by simpa using h2
   have Y:n=m:=by
    apply(List.getElem_inj (h₀:=by simpa using g0) (h₁:=by simpa using X) U).1;simp[h3,H]
   subst Y;rw[h3]at H;simp only[YN,true_and]at H;simp[H]
def Ej {l:List (κ×Value)}{k:κ}(h:getL l k=some v):(k,v)∈l:=by
 unfold getL at h;cases H:AH k l 0 with
 | none=>rw[H]at h;cases h
 | some p=>
   obtain⟨j,u⟩:=p;obtain⟨n,_,h2⟩:=Dy H;rw[H]at h;simp only[Y3,Yd]at h;subst h;exact List.mem_of_getElem? h2
def Db {l:List (κ×Value)}{k:κ}:getL l k=none↔∀p∈l,p.1≠k:=by
 constructor
 ·intro h;unfold getL at h;cases H:AH k l 0 with
  | none=>exact Gw H
  | some p=>rw[H]at h;cases h
 ·intro h;cases I:getL l k with
  | none=>rfl
  | some v=>exact(h _ (Ej I) rfl).elim
def KS {l:List (κ×Value)}(H:(l.map Prod.fst).Nodup){k:κ}{o:Option Value}(h1:∀v,o=some v->(k,v)∈l)(h2:o=none->∀p∈l,p.1≠k):getL l k=o:=by
 cases o with
 | none=>exact Db.2 (h2 rfl)
 | some v=>exact DG H (h1 v rfl)
abbrev ZS:=@List.getElem_map
abbrev Z6:=@List.getElem_set
def PK {l:List (κ×Value)}{k:κ}(h:l[n]?=some (k,u)):(l.set n (k,v)).map Prod.fst=l.map Prod.fst:=by
 have I:n<l.length:=by
  rcases X9 n l.length with H|H
  . exact H
  . rw[XC H]at h;cases h
 apply Ym (by simp);intro i h1 h2;simp only[ZS,Z6];split
 ·rename_i e;subst e
  rw[Xy I]at h;have:l[n]=(k,u):=by simpa using h
  simp[this]
 . rfl
abbrev X6:=@List.mem_map
def Gx {l:List (κ×Value)}(H:(l.map Prod.fst).Nodup)(k:κ)(v:Value):((putL k v l).map Prod.fst).Nodup:=by
 unfold putL;cases I:AH k l 0 with
 | none=>
   simp only[XG,Yz,aE];refine Yl.2 ⟨H,by simp,?_⟩;intro a U b hb;obtain⟨p,O,rfl⟩:=X6.1 U;simp at hb;subst hb
   exact Gw I p O
 | some p=>
   obtain⟨j,u⟩:=p;obtain⟨n,h1,h2⟩:=Dy I;simp only[XO]at h1;subst h1
   rw[PK h2];exact H
abbrev Zc:=@List.mem_or_eq_of_mem_set
def IB {l:List (κ×Value)}(Z:(l.map Prod.fst).Nodup)(k k':κ)(v:Value):getL (putL k v l) k'=if k'=k then some v else getL l k':=by
 refine KS (Gx Z k v) ?_ ?_
 ·intro u hu;unfold putL;cases I:AH k l 0 with
  | none=>
    dsimp only;split at hu
    . rename_i e;subst e;cases hu;simp
    . exact XD.2 (.inl (Ej hu))
  | some p=>
    obtain⟨j,x⟩:=p;obtain⟨n,h1,h2⟩:=Dy I;simp only[XO]at h1;subst h1
    dsimp only;have Y:j<l.length:=by
     rcases X9 j l.length with X|X
     . exact X
     . rw[XC X]at h2;cases h2
    split at hu
    ·rename_i e;subst e;cases hu
     exact Zi.2 ⟨j,by simpa using Y,by simp⟩
    ·rename_i e
     obtain⟨m,a,O⟩:=Zi.1 (Ej hu);refine Zi.2 ⟨m,by simpa using a,?_⟩;rw[List.getElem_set_ne]
     . exact O
     ·rintro rfl;rw[Xy Y]at h2;have h3:l[j]=(k,x):=by simpa using h2
      rw[h3]at O;simp only[YN]at O;exact e O.1.symm
 ·intro U p H e;split at U
  . cases U
  ·rename_i g1
   have g0:=Db.1 U;unfold putL at H;cases I:AH k l 0 with
   | none=>
     rw[I]at H;rcases XD.1 H with H|H
     . exact g0 p H e
     . simp at H;subst H;exact g1 e.symm
   | some q=>
     obtain⟨j,x⟩:=q;rw[I]at H;rcases Zc H with H|rfl
     . exact g0 p H e
     . exact g1 e.symm
abbrev Yf:=@congrArg
abbrev Z7:=@Option.getD_some
def Au.update {K E:TypeId}{enc:κ->Value}{l:List (κ×Value)}(h:Au w b enc l)(L:Da P K enc)(X:P.underlying T=some (.map K E))(k:κ)(v:Value):
 ∃w',(Instr.mapUpdate T (.map (some b)) (enc k) v).run P w=.ok () w'/\Au w' b enc (putL k v l)/\w.grownBy w' (some b):=by
 obtain⟨es,c,hb,I,g0,g4⟩:=h.ex;have g5:=h.lt;have m:es.toList.length=l.length:=by have:=Yf List.length I;simpa using this
 have g2:∀o:Obj,(setObj b o).run P w=.ok () { w with heap:=w.heap.setIfInBounds b o }:=by
  intro o;simp[setObj,Sem.run,hb]
 have g1:∀o:Obj,w.grownBy { w with heap:=w.heap.setIfInBounds b o } (some b):=by
  intro o;refine⟨rfl,rfl,rfl,by simp,λi hi f=>?_⟩;have:b≠i:=by rintro rfl;exact f rfl
  simp[this]
 cases O:AH k l 0 with
 | none=>
   refine⟨{ w with heap:=w.heap.setIfInBounds b (.map (es.push { key:=enc k,val:=v,born:=c }) (c+1)) },?_,?_,g1 _⟩
   . simp only[Instr.mapUpdate,Yx,XZ X,XY,ED hb,L.check,L.find w k l es.toList I,O,g2]
   ·refine⟨⟨es.push { key:=enc k,val:=v,born:=c },c+1,by simp[g5],?_,?_,?_⟩,?_⟩
    . unfold putL;rw[O];simp[I]
    ·intro e H;rw[Array.toList_push,XD]at H;rcases H with H|H
     . have:=g0 e H;omega
     . simp at H;subst H;simp
    ·rw[Array.toList_push,XG];refine Yl.2 ⟨g4,by simp,?_⟩;intro a Y q g7;obtain⟨e,H,rfl⟩:=X6.1 Y;simp at g7;subst g7
     have:=g0 e H;omega
    . exact Gx h.nodup k v
 | some p=>
   obtain⟨j,u⟩:=p;obtain⟨n,h1,h2⟩:=Dy O;simp only[XO]at h1;subst h1
   have g:j<l.length:=by
    rcases X9 j l.length with U|U
    . exact U
    . rw[XC U]at h2;cases h2
   have g6:j<es.size:=by have:es.toList.length=es.size:=rfl;omega
   have g8:es[j].key=enc k:=by
    have h3:=Yf (λx=>x[j]?) I;simp only[Yq,h2,Y3]at h3;have Z:es.toList[j]?=some es[j]:=by simp[g6]
    rw[Z]at h3;simp only[Y3,Yd,YN]at h3;exact h3.1
   have g9:(Instr.keyThatStays (((es[j]?).map (·.key)).getD (enc k)) (enc k)).run P w=.ok (enc k) w:=by
    simp only[Array.getElem?_eq_getElem g6,Y3,Z7,g8];exact L.stays w k
   refine⟨{ w with heap:=w.heap.setIfInBounds b (.map (es.modify j λe=>{ e with key:=enc k,val:=v }) c) },?_,?_,g1 _⟩
   . simp only[Instr.mapUpdate,Yx,XZ X,XY,ED hb,L.check,L.find w k l es.toList I,O,g9,g2]
   ·have g3:(es.modify j λe=>{ e with key:=enc k,val:=v }).toList=es.toList.set j { es[j]with key:=enc k,val:=v }:=by
     apply Ym (by simp);intro i gc d;simp only[Array.getElem_toList,Array.getElem_modify,Z6];split
     . rename_i e;subst e;rfl
     . rfl
    refine⟨⟨es.modify j λe=>{ e with key:=enc k,val:=v },c,by simp[g5],?_,?_,?_⟩,Gx h.nodup k v⟩
    . unfold putL;rw[O,g3];simp[Zp,I]
    ·intro e H;rw[g3]at H;rcases Zc H with H|rfl
     . exact g0 e H
     . exact g0 es[j] (by simp)
    ·have:((es.modify j λe=>{ e with key:=enc k,val:=v }).toList.map (·.born))=es.toList.map (·.born):=by
      rw[g3,Zp];apply Ym (by simp);intro i gc d;simp only[Z6,ZS,Array.getElem_toList];split
      . rename_i e;subst e;rfl
      . rfl
     rw[this];exact g4
def IC {α β:Type}(f:α->β):∀(l:List α) (j:Nat),(l.eraseIdx j).map f=(l.map f).eraseIdx j
 | [],_=>rfl
 | _::_,0=>rfl
 | x::l,j+1=>by simp[IC f l j]
def ID {l:List (κ×Value)}(H:(l.map Prod.fst).Nodup)(k:κ):((delL k l).map Prod.fst).Nodup:=by
 unfold delL;split
 . exact H.sublist ((List.eraseIdx_sublist _ _).map _)
 . exact H
def PL {l:List (κ×Value)}(Y:(l.map Prod.fst).Nodup)(k k':κ):getL (delL k l) k'=if k'=k then none else getL l k':=by
 refine KS (ID Y k) ?_ ?_
 ·intro u hu;split at hu
  . cases hu
  ·rename_i g2
   have H:=Ej hu;unfold delL;cases U:AH k l 0 with
   | none=>exact H
   | some p=>
     obtain⟨j,x⟩:=p;obtain⟨n,h1,h2⟩:=Dy U;simp only[XO]at h1;subst h1
     dsimp only;rw[List.mem_eraseIdx_iff_getElem?];obtain⟨m,g1,a⟩:=Zi.1 H;refine⟨m,?_,by rw[Xy g1,a]⟩;rintro rfl;rw[Xy g1,a]at h2;simp only[Yd,YN]at h2;exact g2 h2.1
 ·intro X p I e;unfold delL at I;cases U:AH k l 0 with
  | none=>
    rw[U]at I;split at X
    . rename_i h;subst h;exact Gw U p I e
    . exact Db.1 X p I e
  | some q=>
    obtain⟨j,x⟩:=q;rw[U]at I;dsimp only at I;obtain⟨n,h1,h2⟩:=Dy U;simp only[XO]at h1;subst h1
    obtain⟨m,g3,H⟩:=List.mem_eraseIdx_iff_getElem?.1 I;split at X
    ·rename_i h;subst h
     have Z:j<l.length:=by
      rcases X9 j l.length with O|O
      . exact O
      . rw[XC O]at h2;cases h2
     have g0:m<l.length:=by
      rcases X9 m l.length with O|O
      . exact O
      . rw[XC O]at H;cases H
     rw[Xy Z]at h2;rw[Xy g0]at H;have:m=j:=by
      apply(List.getElem_inj (h₀:=by simpa using g0) (h₁:=by simpa using Z) Y).1;simp only[Yd]at h2 H;simp[h2,H,e]
     exact g3 this
    . exact Db.1 X p (List.mem_of_getElem? H) e
def Au.delete {K E:TypeId}{enc:κ->Value}{l:List (κ×Value)}(h:Au w b enc l)(L:Da P K enc)(X:P.underlying T=some (.map K E))(k:κ)(Y:TypeId):
 ∃w',(Builtin.delete_ #[T,K] Y #[.map (some b),enc k]).run P w=.ok (.tuple #[]) w'/\Au w' b enc (delL k l)/\w.grownBy w' (some b):=by
 obtain⟨es,c,hb,H,g1,g4⟩:=h.ex;have g5:=h.lt;have g8:es.toList.length=l.length:=by have:=Yf List.length H;simpa using this
 have g2:∀o:Obj,(setObj b o).run P w=.ok () { w with heap:=w.heap.setIfInBounds b o }:=by
  intro o;simp[setObj,Sem.run,hb]
 have g0:∀o:Obj,w.grownBy { w with heap:=w.heap.setIfInBounds b o } (some b):=by
  intro o;refine⟨rfl,rfl,rfl,by simp,λi hi g6=>?_⟩;have:b≠i:=by rintro rfl;exact g6 rfl
  simp[this]
 cases I:AH k l 0 with
 | none=>
   refine⟨{ w with heap:=w.heap.setIfInBounds b (.map es c) },?_,?_,g0 _⟩
   . simp[Builtin.delete_,XZ X,ED hb,L.check,L.find w k l es.toList H,I,g2]
   . refine⟨⟨es,c,by simp[g5],?_,g1,g4⟩,ID h.nodup k⟩;unfold delL;rw[I];exact H
 | some p=>
   obtain⟨j,u⟩:=p;obtain⟨n,h1,h2⟩:=Dy I;simp only[XO]at h1;subst h1
   have Z:j<l.length:=by
    rcases X9 j l.length with O|O
    . exact O
    . rw[XC O]at h2;cases h2
   have g7:j<es.size:=by have:es.toList.length=es.size:=rfl;omega
   refine⟨{ w with heap:=w.heap.setIfInBounds b (.map (es.eraseIdxIfInBounds j) c) },?_,?_,g0 _⟩
   . simp[Builtin.delete_,XZ X,ED hb,L.check,L.find w k l es.toList H,I,g2]
   ·have g3:(es.eraseIdxIfInBounds j).toList=es.toList.eraseIdx j:=by simp[Array.eraseIdxIfInBounds,g7]
    refine⟨⟨es.eraseIdxIfInBounds j,c,by simp[g5],?_,?_,?_⟩,ID h.nodup k⟩
    . unfold delL;rw[I,g3];rw[IC,IC,H]
    . intro e U;rw[g3]at U;exact g1 e (List.mem_of_mem_eraseIdx U)
    . rw[g3];exact g4.sublist ((List.eraseIdx_sublist _ _).map _)
def Au.size {w:Wd}{b:Nat}{K T E:TypeId}{enc:κ->Value}{l:List (κ×Value)}(h:Au w b enc l)(O:P.underlying T=some (.map K E))(H:TypeId):
 (Builtin.len_ #[T] H #[.map (some b)]).run P w=.ok (Iv l.length) w:=by
 obtain⟨es,c,hb,I,_⟩:=h.ex;have g0:es.toList.length=l.length:=by have:=Yf List.length I;simpa using this
 have:es.size=l.length:=g0;simp[Builtin.len_,XZ O,ED hb,goInt,this]
abbrev Yw:=@List.cons.injEq
def IE {K:TypeId}(H:P.underlying K=some (.int .i64)):Da P K (Value.int .i64) where
 check w em k:=MapKept.run_checkKey H (by simp[MapKept.IsKey]) em 9999
 find w k l es h:=by
  have key:∀(es:List MapEntry) (l:List (Int×Value)) (i:Nat),es.map (λe=>(e.key,e.val))=l.map (λp=>(Value.int .i64 p.1,p.2))->Instr.findNow (.int .i64) (Iv k) es i=some (AH k l i):=by
   intro es
   induction es with
   | nil=>intro l i h;cases l with
     | nil=>rfl
     | cons p l=>simp at h
   | cons e es I=>
     intro l i h;cases l with
     | nil=>simp at h
     | cons p l=>
       simp only[Yz,Yw,YN]at h;obtain⟨⟨h1,h2⟩,h3⟩:=h;simp only[Instr.findNow,h1,Instr.sameNow,Y1,AH]
       by_cases e1:p.1=k
       . simp[e1,h2]
       ·have O:(k == p.1)=false:=by simpa using(λe:k=p.1=>e1 e.symm)
        simp[e1,O,I l (i+1) h3]
  simp[Instr.findKey,XZ H,key es l 0 h]
 stays w k:=by simp[Instr.keyThatStays,Instr.sameBits]
def PM {K:TypeId}{d:TypeDesc}{enc:κ->Value}(U:P.underlying K=some d)(c:∀a b,Instr.sameNow d (enc a) (enc b)=none)
 (O:∀(w:Wd) a b,(Op.equal K (enc a) (enc b)).run P w=.ok (decide (a=b)) w)
 (I:∀(w:Wd) (f:Bool) (k:κ),(Instr.checkKey f 10000 K (enc k)).run P w=.ok () w)
 (H:∀(w:Wd) (k:κ),(Instr.keyThatStays (enc k) (enc k)).run P w=.ok (enc k) w):Da P K enc where
 check:=I
 stays:=H
 find w k l es h:=by
  have key:∀(es:List MapEntry) (l:List (κ×Value)) (i:Nat),es.map (λe=>(e.key,e.val))=l.map (λp=>(enc p.1,p.2))->(Instr.findAsking K (enc k) es i).run P w=.ok (AH k l i) w:=by
   intro es
   induction es with
   | nil=>intro l i h;cases l with
     | nil=>rfl
     | cons p l=>simp at h
   | cons e es Y=>
     intro l i h;cases l with
     | nil=>simp at h
     | cons p l=>
       simp only[Yz,Yw,YN]at h;obtain⟨⟨h1,h2⟩,h3⟩:=h;simp only[Instr.findAsking,Yx,h1,O,XY,AH]
       by_cases e1:k=p.1
       . have e2:p.1=k:=e1.symm;simp[e1,h2]
       ·have e2:¬ p.1=k:=λe=>e1 e.symm
        simp[e1,e2,Y l (i+1) h3]
  cases es with
  | nil=>
    cases l with
    | nil=>simp[Instr.findKey,XZ U,Instr.findNow,AH]
    | cons p l=>simp at h
  | cons e es=>
    cases l with
    | nil=>simp at h
    | cons p l=>
      have X:=h;simp only[Yz,Yw,YN]at X;have Z:Instr.findNow d (enc k) (e::es) 0=none:=by simp[Instr.findNow,X.1.1,c]
      simp[Instr.findKey,XZ U,Z,key _ _ 0 h]
def KT {o:Oper}{K E:TypeId}{enc:κ->Value}{l:List (κ×Value)}
 (X:o.guard=none) (m x y:Operand) (H:o.op=Op.mapUpdate T m x y) (L:Da P K enc) (Y:P.underlying T=some (.map K E))
 (k:κ) (v:Value) (U:a.eval m=.map (some b)) (hx:a.eval x=enc k) (I:a.eval y=v) (h:Au w b enc l)
 (Z:∀w',Au w' b enc (putL k v l)->w.grownBy w' (some b)->wpList P ops Q rest (a.put o.dst undef) w'):wpList P ops Q (o::rest) a w:=by
 refine wpList_plain X λc g0=>?_
 obtain⟨w',O,h1,h2⟩:=h.update L Y k v;unfold Oper.wp;simp[execOp,H,U,hx,I,O,Result.andThen];exact g0 _ _ (Z w' h1 h2)
end
def IF:(prog.info? 107).map (λi=>i.size)=some 1:=by kernel_rfl
def encE (q:Nat×Nat):Value:=.agg #[Iv q.1,Iv q.2]
def DH (w:Wd)(H:prog.underlying T=some (.int .i64))(xs:Array Value)(i:Nat)(v:Value)(h:xs[i]?=some v):(part T xs i).run prog w=.ok v w:=by
 simp[part,isAgg,XZ H,h]
def ckE (w:Wd)(H:Bool)(k:Nat×Nat):(Instr.checkKey H 10000 239 (encE k)).run prog w=.ok () w:=by
 have h:=λ(x:Int)=>MapKept.run_checkKey (P:=prog) (w:=w) (kt:=107) (k:=Iv x) underlying107 (by simp[MapKept.IsKey]) H 9998
 have s:=IF;cases hi:prog.info? 107 with
 | none=>rw[hi]at s;cases s
 | some i=>
   rw[hi]at s;simp only[Y3,Yd]at s;have hs:=run_sizeOf w hi;rw[show prog.cellsOf 107=1 by kernel_rfl]at hs;have O:=DH w underlying107 #[Iv k.1,Iv k.2] 0 _ rfl;have I:=DH w underlying107 #[Iv k.1,Iv k.2] 1 _ rfl;unfold Instr.checkKey encE;simp only[Yx,XZ underlying239,XY];simp[hs,List.range',O,I,h]
def eqE (w:Wd)(a b:Nat×Nat):(Op.equal 239 (encE a) (encE b)).run prog w=.ok (decide (a=b)) w:=by
 have U:=λ(x y:Int)=>run_equalIn_int (P:=prog) w 9998 107 .i64 .i64 x y underlying107
 have s:=IF;cases hi:prog.info? 107 with
 | none=>rw[hi]at s;cases s
 | some i=>
   rw[hi]at s;simp only[Y3,Yd]at s;have hs:=run_sizeOf w hi;rw[show prog.cellsOf 107=1 by kernel_rfl]at hs;have O:=λk:Nat×Nat=>DH w underlying107 #[Iv k.1,Iv k.2] 0 _ rfl
   have I:=λk:Nat×Nat=>DH w underlying107 #[Iv k.1,Iv k.2] 1 _ rfl
   have X:Op.maxDepth=9999+1:=rfl;unfold Op.equal encE;rw[X];unfold Op.equalIn;simp only[Yx,XZ underlying239,XY,hs];simp[List.range',O,I,U];obtain⟨H,a2⟩:=a;obtain⟨b1,b2⟩:=b;have e1:((H:Int)=b1)↔H=b1:=by omega
   have e2:((a2:Int)=b2)↔a2=b2:=by omega
   by_cases h1:H=b1<;>by_cases h2:a2=b2<;>simp[e1,e2,h1,h2]
def DI:Da prog 239 encE:=
 PM underlying239 (λa b=>by simp[Instr.sameNow]) eqE ckE (λw k=>by simp[Instr.keyThatStays,Instr.sameBits,encE])
structure AS (o:Own)(w:Wd)(v t:Nat)(f:Nat×Nat->Option Nat):Prop where
 own:o t=some (.tab v)
 ex:∃mb l,w.heap[t]?=some (.cells #[.map (some mb)] 222 (0,0))/\o mb=some (.tmap v)/\Au w mb encE l/\∀k,getL l k=(f k).map (λ(id:Nat)=>Value.int .i64 id)
def AS.keep {o:Own}{v t:Nat}{f:Nat×Nat->Option Nat}(h:AS o w v t f)(hk:∀g r,o g=some r->(r=.tab v\/r=.tmap v)->w'.heap[g]?=w.heap[g]?)(H:∀g r,o g=some r->o' g=some r):AS o' w' v t f:=by
 obtain⟨mb,l,h1,h2,h3,I⟩:=h.ex;refine⟨H _ _ h.own,mb,l,(hk _ _ h.own (.inl rfl)).trans h1,H _ _ h2,?_,I⟩;obtain⟨es,c,hb,rest⟩:=h3.ex;exact⟨⟨es,c,(hk _ _ h2 (.inr rfl)).trans hb,rest⟩,h3.nodup⟩
def AS.chg {o:Own}{v t:Nat}{f:Nat×Nat->Option Nat}(h:AS o w v t f)(I:Chg R o o' w w')(H:Ac o w)(h1:¬ R (.tab v))(h2:¬ R (.tmap v)):AS o' w' v t f:=
 h.keep (λg r U O=>I.same H U (by rcases O with rfl|rfl<;>assumption)) I.ext
def AS.below {o:Own}{v t:Nat}{f:Nat×Nat->Option Nat}(h:AS o w v t f)(hb:Bw w w')(H:Ac o w):AS o w' v t f:=
 h.keep (λg r I _=>hb.block g (H g r I)) (λ_ _ h=>h)
def cell1 {a:Value}(h:w.heap[g]?=some (.cells #[a] T (0,0))):w.cell? (Av g)=some a:=by rw[Xw w g 0 _ _ _ h];rfl
theorem AS.look {o:Own}{v t:Nat}{f:Nat×Nat->Option Nat}(h:AS o w v t f)(lo hi:Nat):∃mb,w.cell? (Av t)=some (.map (some mb)) /\
 (Instr.lookup 220 (.map (some mb)) (.agg #[Iv lo,Iv hi]) true).run prog w=.ok (match f (lo,hi)with|some id=>.tuple #[Iv id,.bool true]|none=>.tuple #[Iv 0,.bool false]) w:=by
 obtain⟨mb,l,h1,h2,h3,H⟩:=h.ex;refine⟨mb,cell1 h1,?_⟩;have:=h3.lookup DI underlying220 zeroValue3 (lo,hi) true;rw[H]at this;refine this.trans ?_;cases f (lo,hi)<;>rfl
theorem IG (o:Own)(v t:Nat)(f:Nat×Nat->Option Nat)(lo hi id:Nat)(w:Wd)(h:AS o w v t f)(H:f (lo,hi)=some id):
 Cl 154 #[Pt t,Iv lo,Iv hi] w (Sm (.tuple #[Iv id,.bool true]) w):=by
 obtain⟨mb,I,hl⟩:=h.look lo hi;rw[H]at hl;clear h H
 go_enter func154,ntmps154
 go_wp2
 go_ret2
 exact⟨rfl,rfl⟩
def II (o:Own)(v t:Nat)(f:Nat×Nat->Option Nat)(lo hi:Nat)(w:Wd)(h:AS o w v t f)(H:f (lo,hi)=none):
 Cl 154 #[Pt t,Iv lo,Iv hi] w (Sm (.tuple #[Iv 0,.bool false]) w):=by
 obtain⟨mb,I,hl⟩:=h.look lo hi;rw[H]at hl;clear h H
 go_enter func154,ntmps154
 go_wp2
 go_ret2
 exact⟨rfl,rfl⟩
def putF (f:Nat×Nat->Option Nat)(k:Nat×Nat)(x:Option Nat):Nat×Nat->Option Nat:=λq=>if q=k then x else f q
theorem KU (o:Own)(v t:Nat)(f:Nat×Nat->Option Nat)(lo hi id:Nat)(w:Wd)(h:AS o w v t f)(H:Ac o w)(X:f (lo,hi)=none):
 Cl 166 #[Pt t,Iv lo,Iv hi,Iv id] w λx w'=>x=.returned (Iv 0)/\AS o w' v t (putF f (lo,hi) (some id))/\Chg (· = .tmap v) o o w w'/\Ac o w':=by
 obtain⟨mb,l,h1,h2,h3,O⟩:=h.ex;have d:=cell1 h1;have hl:=h3.lookup DI underlying220 zeroValue3 (lo,hi) true;rw[O,X]at hl;simp only[Option.map_none,Option.getD_none,Option.isSome_none,Y1]at hl;unfold encE at hl;obtain⟨w',U,Z,I⟩:=h3.update DI underlying220 (lo,hi) (Iv id);have g2:(Instr.mapUpdate 220 (.map (some mb)) (.agg #[Iv lo,Iv hi]) (Iv id)).run prog w=.ok () w':=U;have g0:AS o w' v t (putF f (lo,hi) (some id)):=by
  refine⟨h.own,mb,_,(I.block t (H _ _ h.own) (λe=>by cases e;have:=h.own;rw[h2]at this;cases this)).trans h1,h2,Z,λk=>?_⟩;rw[IB h3.nodup,O];unfold putF;split<;>rfl
 have Y:Chg (· = .tmap v) o o w w':=(Chg.refl _ o w).grown I (λg e=>by cases e;exact⟨_,h2,rfl⟩);have g1:Ac o w':=H.mono I.size;have b:=Hd g0;have c:=Hd Y;have a:=Hd g1;clear h h1 h2 h3 O Z I U g0 Y g1 H X
 go_enter func166,ntmps166
 go_wp2
 go_ret;exact⟨rfl,b.o,c.o,a.o⟩
theorem KV (o:Own)(v t:Nat)(f:Nat×Nat->Option Nat)(lo hi id:Nat)(w:Wd)(h:AS o w v t f)(H:Ac o w)(X:f (lo,hi)=some id):
 Cl 163 #[Pt t,Iv lo,Iv hi] w λx w'=>x=.returned (Iv 0)/\AS o w' v t (putF f (lo,hi) none)/\Chg (· = .tmap v) o o w w'/\Ac o w':=by
 obtain⟨mb,l,h1,h2,h3,O⟩:=h.ex;have i:=cell1 h1;have hl:=h3.lookup DI underlying220 zeroValue3 (lo,hi) true;rw[O,X]at hl;simp only[Y3,Z7,Option.isSome_some,Y1]at hl;unfold encE at hl;have g1:=λa=>h3.delete DI underlying220 (lo,hi) a
 obtain⟨w',U,Z,I⟩:=g1 0;have g3:(Builtin.delete_ #[220,239] 0 #[.map (some mb),.agg #[Iv lo,Iv hi]]).run prog w=.ok (.tuple #[]) w':=U;have g0:AS o w' v t (putF f (lo,hi) none):=by
  refine⟨h.own,mb,_,(I.block t (H _ _ h.own) (λe=>by cases e;have:=h.own;rw[h2]at this;cases this)).trans h1,h2,Z,λk=>?_⟩;rw[PL h3.nodup,O];unfold putF;split<;>rfl
 have Y:Chg (· = .tmap v) o o w w':=(Chg.refl _ o w).grown I (λg e=>by cases e;exact⟨_,h2,rfl⟩);have g2:Ac o w':=H.mono I.size;have c:=Hd g0;have d:=Hd Y;have b:=Hd g2;clear h h1 h2 h3 O Z I U g0 Y g2 H X g1
 go_enter func163,ntmps163
 go_wp2
 go_ret;exact⟨rfl,c.o,d.o,b.o⟩
def PN (d:Nat)(w:Wd)(a b c O I H:Nat):(Op.equalIn (d+2) 240 (.agg #[Iv a,Iv b,Iv c]) (.agg #[Iv O,Iv I,Iv H])).run prog w=.ok (decide (a=O/\b=I/\c=H)) w:=by
 have Z:=λ(x y:Int)=>run_equalIn_int (P:=prog) w d 107 .i64 .i64 x y underlying107
 have s:=IF;cases hi:prog.info? 107 with
 | none=>rw[hi]at s;cases s
 | some i=>
   have hs:=run_sizeOf w hi;rw[show prog.cellsOf 107=1 by kernel_rfl]at hs;have Y:=λa b c:Nat=>DH w underlying107 #[Iv a,Iv b,Iv c] 0 _ rfl
   have X:=λa b c:Nat=>DH w underlying107 #[Iv a,Iv b,Iv c] 1 _ rfl
   have U:=λa b c:Nat=>DH w underlying107 #[Iv a,Iv b,Iv c] 2 _ rfl
   unfold Op.equalIn;simp only[Yx,XZ underlying240,XY,hs];simp[List.range',Y,X,U,Z];have e1:((a:Int)=O)↔a=O:=by omega
   have e2:((b:Int)=I)↔b=I:=by omega
   have e:((c:Int)=H)↔c=H:=by omega
   by_cases h1:a=O<;>by_cases h2:b=I<;>by_cases h3:c=H<;>simp[e1,e2,e,h1,h2,h3]
def PO (w:Wd)(op H:Int)(a b c U O I:Nat):(Op.equal 242 (keyV op a b c) (keyV H U O I)).run prog w=.ok (decide (op=H/\a=U/\b=O/\c=I)) w:=by
 have X:=λ(x y:Int)=>run_equalIn_int (P:=prog) w 9998 3 .i64 .i64 x y underlying3
 have h:=run_equalIn_struct (P:=prog) w 9999 242 #[Iv op,Iv a,Iv b,Iv c] #[Iv H,Iv U,Iv O,Iv I] (by simp[Program.fieldsOf,underlying242]) (by kernel_rfl);have h3:=PN 9997 w a b c U O I;have Y:Op.maxDepth=9999+1:=rfl;have g0:∀op a b c:Value,(part 240 #[op,a,b,c] 1).run prog w=.ok (.agg #[a,b,c]) w:=by
  intro op a b c;cases hi:prog.info? 240 with
  | none=> have s: (prog.info? 240).map (λi=> i.size)=some 3:= by kernel_rfl
           rw[hi]at s;cases s
  | some i=>
    have hs:=run_sizeOf w hi;rw[show prog.cellsOf 240=3 by kernel_rfl]at hs;simp[part,isAgg,XZ underlying240]
 have g1:∀op a b c:Value,(part 3 #[op,a,b,c] 0).run prog w=.ok op w:=λop a b c=>DH w underlying3 _ 0 _ rfl
 unfold Op.equal keyV;rw[Y,h];simp only[Program.fieldsOf,underlying242];simp[Op.eqFields,g0,g1,X,h3]
 by_cases h1:op=H<;>by_cases h2:a=U<;>by_cases h3:b=O<;>by_cases Z:c=I<;>simp[h1,h2,h3,Z]
def PQ (w:Wd)(op H:Int)(a b c U O I:Nat):(binOp .neq 242 (.agg #[Iv op,Iv a,Iv b,Iv c]) (.agg #[Iv H,Iv U,Iv O,Iv I])).run prog w=.ok (.bool (!decide (op=H/\a=U/\b=O/\c=I))) w:=by
 have h:=PO w op H a b c U O I;unfold keyV at h;simp only[binOp];simp[h]
structure EntD where
 op:Int
 a:Nat
 b:Nat
 c:Nat
 r:Nat
 full:Bool
def entV (e:EntD):List Value:=[Iv e.op,Iv e.a,Iv e.b,Iv e.c,Iv e.r,.bool e.full]
def CM (e:EntD):(entV e).length=6:=rfl
def ent0:EntD:=⟨0,0,0,0,0,false⟩
def Bi (l:List EntD)(i:Nat):EntD:=l.getD i ent0
abbrev Phi:=Int->Nat->Nat->Nat->Nat->Prop
def Fv (F:Phi)(l:List EntD):Prop:=∀i,(Bi l i).full=true->F (Bi l i).op (Bi l i).a (Bi l i).b (Bi l i).c (Bi l i).r
structure Bc (o:Own)(w:Wd)(mb:Nat)(F:Phi):Prop where
 own:o mb=some .memo
 ex:∃ve asked found,w.heap[mb]?=some (.cells #[Iv 4096,ve,Iv asked,Iv found] 196 (0,0)) /\
  (ve=.slice none 0 0\/∃ge cap l,ve=.slice (some (Av ge)) 4096 cap/\l.length=4096/\RowR o w .entries 246 6 ve 4096 (l.flatMap entV)/\Fv F l)
theorem Bc.keep {o o':Own}{w w':Wd}{mb:Nat}{F:Phi}(h:Bc o w mb F)(hk:∀g r,o g=some r->(r=.memo\/r=.entries)->w'.heap[g]?=w.heap[g]?)(I:∀g r,o g=some r->o' g=some r):Bc o' w' mb F:=by
 obtain⟨O,a,f,h1,h2⟩:=h.ex;refine⟨I _ _ h.own,O,a,f,(hk _ _ h.own (.inl rfl)).trans h1,h2.imp id ?_⟩;rintro⟨ge,cap,l,e1,e2,e3,e4⟩;exact⟨ge,cap,l,e1,e2,e3.keep (λg H=>hk g _ H (.inr rfl)) (λg H=>I g _ H),e4⟩
def Bc.chg {o:Own}{F:Phi}(h:Bc o w mb F)(I:Chg R o o' w w')(H:Ac o w)(h1:¬ R .memo)(h2:¬ R .entries):Bc o' w' mb F:=
 h.keep (λg r U O=>I.same H U (by rcases O with rfl|rfl<;>assumption)) I.ext
def cells4 {a b c d:Value}(h:w.heap[g]?=some (.cells #[a,b,c,d] T (0,0))):w.cell? (Av g)=some a/\w.cell? (Aw g 1)=some b/\w.cell? (Aw g 2)=some c/\w.cell? (Aw g 3)=some d/\(∀k,w.frozen? (Aw g k)=false):=
 ⟨by rw[Xw w g 0 _ _ _ h];rfl,by rw[Xw w g 1 _ _ _ h];rfl,by rw[Xw w g 2 _ _ _ h];rfl,by rw[Xw w g 3 _ _ _ h];rfl,λk=>by simp[World.frozen?,h]⟩
def IJ {o:Own}{cap m:Nat}{l:List EntD}(h:RowR o w .entries 246 6 (.slice (some (Av g)) m cap) 4096 (l.flatMap entV))(hl:l.length=4096)(hk:k<4096):
 w.cell? (Aw g (k*6))=some (Iv (Bi l k).op)/\w.cell? (Aw g (k*6+1))=some (Iv (Bi l k).a)/\w.cell? (Aw g (k*6+2))=some (Iv (Bi l k).b)/\w.cell? (Aw g (k*6+3))=some (Iv (Bi l k).c) /\
 w.cell? (Aw g (k*6+4))=some (Iv (Bi l k).r)/\w.cell? (Aw g (k*6+5))=some (.bool (Bi l k).full):=by
 have hx:l[k]?=some (Bi l k):=by simp[Bi,List.getD,hl,hk]
 have g0:(l.flatMap entV).length=4096*6:=by rw[Ch entV 6 CM,hl]
 have e:=λj (H:j<6)=>(h.cell (k*6+j) (by rw[g0];omega)).trans (Ef entV 6 CM l k j _ hx H)
 exact⟨e 0 (by omega),e 1 (by omega),e 2 (by omega),e 3 (by omega),e 4 (by omega),e 5 (by omega)⟩
def PR (F:Phi)(op:Int)(a b c:Nat)(x:Ending):Prop:=x=.returned (.tuple #[Iv 0,.bool false])\/∃r:Nat,x=.returned (.tuple #[Iv r,.bool true])/\F op a b c r
abbrev XQ:=@decide_eq_true
abbrev XW:=@decide_eq_false
def KW (o:Own)(mb:Nat)(F:Phi)(op:Int)(a b c:Nat)(w:Wd)(h:Bc o w mb F)(H:Ac o w):
 Cl 144 #[Pt mb,Iv op,Iv a,Iv b,Iv c] w λx w'=>PR F op a b c x/\Bc o w' mb F/\Chg (· = .memo) o o w w'/\Ac o w':=by
 obtain⟨Q,asked,found,gc,hv⟩:=h.ex;obtain⟨M,c1,c2,c3,f0⟩:=cells4 gc;obtain⟨W,I⟩:=Ex (w.setCell (Aw mb 2) (Iv (wrap64 (asked+1))));have g2:W.heap[mb]?=some (.cells #[Iv 4096,Q,Iv (wrap64 (asked+1)),Iv found] 196 (0,0)):=by rw[I];exact A2 gc _
 have g9:Chg (· = .memo) o o w W:=by rw[I];exact Chg.setCell (R:=(· = .memo)) (Chg.refl _ o w) (p:=Aw mb 2) h.own rfl _
 have Z:Ac o W:=H.mono g9.size;rcases hv with rfl|⟨ge,cap,l,rfl,hl,K,t⟩
 ·have g6:Bc o W mb F:=⟨h.own,_,_,_,g2,.inl rfl⟩;have HF:=Hd g6;have HC:=Hd g9;have U:=Hd Z;have v:=Hd I;obtain⟨d0,d1,d2,d3,g0⟩:=cells4 g2;rw[I]at d0 d1 d2 d3 g0;clear h H gc g2 g9 Z g6 I
  go_enter func144,ntmps144
  go_wp2
  go_ret2
  rw[<-v.o];exact⟨.inl rfl,HF.o,HC.o,U.o⟩
 ·have u:RowR o W .entries 246 6 (.slice (some (Av ge)) 4096 cap) 4096 (l.flatMap entV):=K.chg g9 H (by simp);have g6:Bc o W mb F:=⟨h.own,_,_,_,g2,.inr ⟨ge,cap,l,rfl,hl,u,t⟩⟩;obtain⟨d0,d1,d2,d3,g0⟩:=cells4 g2;have X:=(Ag W (.cells #[Iv op,Iv a,Iv b,Iv c] 242));have e1:=Cq X d1;have go:=Hd (KR mb ge cap op a b c _ e1);have g:W.heap.size=w.heap.size:=by rw[I];simp[World.setCell]
  obtain⟨bx,s⟩:=Ex w.heap.size;obtain⟨WK,Y⟩:=Ex (W.alloc (.cells #[Iv op,Iv a,Iv b,Iv c] 242));have C:WK.heap[bx]?=some (.cells #[Iv op,Iv a,Iv b,Iv c] 242 (0,0)):=by rw[Y,s,<-g];exact Xv W _
  rw[<-Y]at go X;have gJ:=Hd g6;have gH:=Hd g9;have m:=Hd Z;have gD:=Hd u;have U:=Hd hl;have n:=Hd t;have N:=Hd X;have A:=Hd C;have gF:=Hd g2;have g8:=Hd h.own;have v:=Hd I;have gC:=Hd Y;have HZ:=Hd g;have gI:=Hd s;rw[I]at d0 d1 d2 d3 g0;have f:mb<w.heap.size:=Ad M;clear h H gc g2 g9 Z g6 I u t hl K X C Y s g e1
  go_enter func144,ntmps144
  go_wp2_with fail;rw[<-v.o,<-gC.o,<-gI.o];refine go.o.mono ?_;rintro x w2 ⟨i,hi,rfl,q⟩;have g7:Bw W w2:=N.o.trans (q.mono N.o.size);have g3:=gD.o.below m.o g7;have d:=(g7.block mb (m.o _ _ g8.o)).trans gF.o;have G:=(q.block bx (Xt.1 A.o).1).trans A.o;have B:Chg (· = .memo) o o w w2:=gH.o.trans (Chg.of_below g7 _ _);have D:Ac o w2:=m.o.mono g7.size;obtain⟨E,j⟩:∃E,Bi (l:=l) i=E:=⟨_,rfl⟩;obtain⟨n0,n1,V,T,S,n5⟩:=IJ g3 U.o hi;rw[j]at n0 n1 V T S n5;obtain⟨k0,k1,k2,k3,fk⟩:=cells4 G;clear d0 d1 d2 d3 g0 M c1 c2 c3 f0 f;obtain⟨d0,d1,d2,d3,g0⟩:=cells4 d;have gf:Bc o w2 mb F:=⟨g8.o,_,_,_,d,.inr ⟨ge,cap,l,rfl,U.o,g3,n.o⟩⟩;have z:=Hd gf;have gt:=Hd B;have k:=Hd D;have gA:=Hd d;have gE:=Hd g3;have y:=Hd j;clear gf B D q g7 g3 d G j go;have g4:=PQ
  by_cases g1:E.full=true
  ·rw[g1]at n5;have gG:=Hd g1
   by_cases g5:E.op=op/\E.a=a/\E.b=b/\E.c=c
   ·have O:decide (E.op=op/\E.a=a/\E.b=b/\E.c=c)=true:=XQ g5;have gB:∀w,(binOp .neq 242 (.agg #[Iv E.op,Iv E.a,Iv E.b,Iv E.c]) (.agg #[Iv op,Iv a,Iv b,Iv c])).run prog w=.ok (.bool false) w:=λw=>by rw[g4,O];rfl
    have e:=Hd g5;clear g4 O g5 g1;go_wp2
    go_quiet (fail)
    go_wp2
    go_ret2
    have J:=n.o i (by rw[y.o];exact gG.o);rw[y.o,e.o.1,e.o.2.1,e.o.2.2.1,e.o.2.2.2]at J;refine⟨.inr ⟨E.r,rfl,J⟩,⟨g8.o,_,_,_,A2 (w:=w2.drewN nq) gA.o _,.inr ⟨ge,cap,l,rfl,U.o,?_,n.o⟩⟩,Chg.setCell (R:=(· = .memo)) (gt.o.drewN nq) (p:=Aw mb 3) g8.o rfl _,k.o.mono (by simp[World.setCell])⟩;exact(gE.o.keep (w':=w2.drewN nq) (λ_ _=>rfl) (λ_ h=>h)).setCell_other (p:=Aw mb 3) (by rw[g8.o];simp) _
   ·have O:decide (E.op=op/\E.a=a/\E.b=b/\E.c=c)=false:=XW g5;have gB:∀w,(binOp .neq 242 (.agg #[Iv E.op,Iv E.a,Iv E.b,Iv E.c]) (.agg #[Iv op,Iv a,Iv b,Iv c])).run prog w=.ok (.bool true) w:=λw=>by rw[g4,O];rfl
    clear g4 O g5 g1;go_wp2
    go_quiet (fail)
    go_wp2
    go_ret2
    exact⟨.inl rfl,z.o.keep (λ_ _ _ _=>rfl) (λ_ _ h=>h),gt.o.drewN _,k.o⟩
  ·have L:E.full=false:=by simpa using g1
   rw[L]at n5;clear g4 g1 L;go_wp2
   go_quiet (fail)
   go_wp2
   go_ret2
   exact⟨.inl rfl,z.o.keep (λ_ _ _ _=>rfl) (λ_ _ h=>h),gt.o.drewN _,k.o⟩
def KX:(prog.info? 246).map (λi=>(i.zero,i.size,i.bytes))=some (some (.agg #[Iv 0,Iv 0,Iv 0,Iv 0,Iv 0,.bool false]),6,48):=by kernel_rfl
abbrev aA:=@List.getElem?_replicate
def KY (n:Nat):(madeCells #[Iv 0,Iv 0,Iv 0,Iv 0,Iv 0,.bool false] (n*6)).toList=(List.replicate n ent0).flatMap entV:=by
 apply List.ext_getElem?;intro i;simp only[madeCells,Array.toList_map,Array.toList_range,Yq]
 by_cases hi:i<n*6
 ·have e:=Ef entV 6 CM (List.replicate n ent0) (i/6) (i%6) ent0 (by rw[aA,Xx (by omega)]) (by omega);rw[show i/6*6+i%6=i by omega]at e;rw[e,List.getElem?_range hi];have H:i%6=0\/i%6=1\/i%6=2\/i%6=3\/i%6=4\/i%6=5:=by omega
  simp only[Y3];rcases H with h|h|h|h|h|h<;>simp[h,entV,ent0]
 ·have hl:((List.replicate n ent0).flatMap entV).length=n*6:=by rw[Ch entV 6 CM];simp
  rw[XC (l:=(List.replicate n ent0).flatMap entV) (by omega),XC (by simp;omega)];rfl
def PS:(prog.info? 246).map (λi=>i.size)=some 6:=by kernel_rfl
def set6 (w:Wd)(g k:Nat)(e:EntD):Wd:=
 (((((w.setCell (Aw g (k*6)) (Iv e.op)).setCell (Aw g (k*6+1)) (Iv e.a)).setCell (Aw g (k*6+2)) (Iv e.b)).setCell (Aw g (k*6+3)) (Iv e.c)).setCell (Aw g (k*6+4)) (Iv e.r)).setCell (Aw g (k*6+5)) (.bool e.full)
def KZ (f:∀j,w.frozen? (Aw g j)=false){h e d Z Y X:Value}(A:w.cell? (Aw g (k*6))=some h)(c1:w.cell? (Aw g (k*6+1))=some e)(c2:w.cell? (Aw g (k*6+2))=some d)(z:w.cell? (Aw g (k*6+3))=some Z)(y:w.cell? (Aw g (k*6+4))=some Y)(x:w.cell? (Aw g (k*6+5))=some X)(E:EntD):
 (Instr.storeAt 246 (.pointer (some (Aw g (k*6)))) (.agg #[Iv E.op,Iv E.a,Iv E.b,Iv E.c,Iv E.r,.bool E.full])).run prog w=.ok () (set6 w g k E):=by
 have s:=PS;have g0:∀j,((Aw g (k*6)):Addr).add j=(Aw g (k*6+j)):=λj=>by unfold Addr.add;split<;>simp_all
 have g1:(Instr.sureAddr (Value.pointer (some (Aw g (k*6))))).run prog w=.ok (Aw g (k*6)) w:=rfl;cases hi:prog.info? 246 with
 | none=>rw[hi]at s;cases s
 | some i=>
   rw[hi]at s;simp only[Y3,Yd]at s;have H:∀(w':Wd) p v j,(w'.setCell p v).frozen? (Aw g j)=w'.frozen? (Aw g j):=λw' p v j=>YU _ _ _ _
   obtain⟨v1,e1⟩:=AZ (p:=(Aw g (k*6))) (v:=Iv E.op) c1;obtain⟨v2,e2⟩:=AZ (p:=(Aw g (k*6))) (v:=Iv E.op) c2;obtain⟨v2,e2⟩:=AZ (p:=(Aw g (k*6+1))) (v:=Iv E.a) e2;obtain⟨v3,U⟩:=AZ (p:=(Aw g (k*6))) (v:=Iv E.op) z;obtain⟨v3,U⟩:=AZ (p:=(Aw g (k*6+1))) (v:=Iv E.a) U;obtain⟨v3,U⟩:=AZ (p:=(Aw g (k*6+2))) (v:=Iv E.b) U;obtain⟨v4,O⟩:=AZ (p:=(Aw g (k*6))) (v:=Iv E.op) y;obtain⟨v4,O⟩:=AZ (p:=(Aw g (k*6+1))) (v:=Iv E.a) O;obtain⟨v4,O⟩:=AZ (p:=(Aw g (k*6+2))) (v:=Iv E.b) O;obtain⟨v4,O⟩:=AZ (p:=(Aw g (k*6+3))) (v:=Iv E.c) O;obtain⟨v5,I⟩:=AZ (p:=(Aw g (k*6))) (v:=Iv E.op) x;obtain⟨v5,I⟩:=AZ (p:=(Aw g (k*6+1))) (v:=Iv E.a) I;obtain⟨v5,I⟩:=AZ (p:=(Aw g (k*6+2))) (v:=Iv E.b) I;obtain⟨v5,I⟩:=AZ (p:=(Aw g (k*6+3))) (v:=Iv E.c) I;obtain⟨v5,I⟩:=AZ (p:=(Aw g (k*6+4))) (v:=Iv E.r) I;have u:=C4 (P:=prog) (v:=Iv E.op) A (f _) rfl;have t:=C4 (P:=prog) (v:=Iv E.a) e1 (by rw[H];exact f _) rfl;have q:=C4 (P:=prog) (v:=Iv E.b) e2 (by rw[H,H];exact f _) rfl;have n:=C4 (P:=prog) (v:=Iv E.c) U (by rw[H,H,H];exact f _) rfl;have m:=C4 (P:=prog) (v:=Iv E.r) O (by rw[H,H,H,H];exact f _) rfl;have l:=C4 (P:=prog) (v:=.bool E.full) I (by rw[H,H,H,H,H];exact f _) rfl;simp only[Instr.storeAt,Yx,g1,XY];simp[storeVar,sizeOf,typeInfo,hi,s,Value.cells,storeCells,g0,u,t,q,n,m,l,set6]
def PT (xs:List Value)(k:Nat)(a b c d e f:Value)(h:k+6<=xs.length):(((((xs.set k a).set (k+1) b).set (k+2) c).set (k+3) d).set (k+4) e).set (k+5) f=xs.take k++[a,b,c,d,e,f]++xs.drop (k+6):=by
 apply List.ext_getElem?;intro i;simp only[Yb,XE]
 by_cases h0:i<k
 . rw[XN (by simp;omega),XN (by simp;omega),Zt,Xx h0];rw[Xu (by omega),Xu (by omega),Xu (by omega),Xu (by omega),Xu (by omega),Xu (by omega)]
 ·by_cases h1:i<k+6
  ·rw[XN (by simp;omega),Ya (by simp;omega)];have hl:(xs.take k).length=k:=by simp;omega
   rw[hl];have:i=k\/i=k+1\/i=k+2\/i=k+3\/i=k+4\/i=k+5:=by omega
   rcases this with rfl|rfl|rfl|rfl|rfl|rfl<;>(simp;omega)
  . rw[Xu (by omega),Xu (by omega),Xu (by omega),Xu (by omega),Xu (by omega),Xu (by omega)];rw[Ya (by simp;omega)];simp only[X4,YB,XL,Y2,Zu];congr 1;omega
def PU {o:Own}{cap m:Nat}{l:List EntD}(h:RowR o w .entries 246 6 (.slice (some (Av g)) m cap) l.length (l.flatMap entV))(hk:k<l.length)(E:EntD):
 RowR o (set6 w g k E) .entries 246 6 (.slice (some (Av g)) m cap) l.length ((l.set k E).flatMap entV):=by
 have H:=(((((h.stored (k*6) (Iv E.op)).stored (k*6+1) (Iv E.a)).stored (k*6+2) (Iv E.b)).stored (k*6+3) (Iv E.c)).stored (k*6+4) (Iv E.r)).stored (k*6+5) (.bool E.full);have hl:(l.flatMap entV).length=l.length*6:=Ch entV 6 CM _;rw[PT _ _ _ _ _ _ _ _ (by rw[hl];omega)]at H;rw[I4 entV 6 CM l k E hk];exact H
def PV {E:EntD}(hb:b≠g):(set6 w g k E).heap[b]?=w.heap[b]?:=by
 unfold set6;rw[Az hb,Az hb,Az hb,Az hb,Az hb,Az hb]
def La {o:Own}{E:EntD}(h:Chg R o o' w0 w)(H:o' g=some .entries)(I:R .entries):Chg R o o' w0 (set6 w g k E):=
 (((((h.setCell (p:=(Aw g (k*6))) H I _).setCell (p:=(Aw g (k*6+1))) H I _).setCell (p:=(Aw g (k*6+2))) H I _).setCell (p:=(Aw g (k*6+3))) H I _).setCell (p:=(Aw g (k*6+4))) H I _).setCell (p:=(Aw g (k*6+5))) H I _
def PW {F:Phi}{l:List EntD}(h:Fv F l)(k:Nat){E:EntD}(H:F E.op E.a E.b E.c E.r):Fv F (l.set k E):=by
 intro i hi
 by_cases e:i=k/\k<l.length
 ·obtain⟨rfl,hk⟩:=e;have:Bi (l.set i E) i=E:=by simp[Bi,List.getD,hk]
  rw[this];exact H
 ·have:Bi (l.set k E) i=Bi l i:=by
   simp only[Bi,List.getD,Yb]
   by_cases e1:k=i
   ·rw[Xx e1];have:¬ k<l.length:=λI=>e ⟨e1.symm,I⟩
    rw[Xu this];subst e1;rw[XC (by omega)]
   . rw[Xu e1]
  rw[this]at hi⊢;exact h i hi
end Go.Proofs.YtnphndlbfeagbaaGreat
